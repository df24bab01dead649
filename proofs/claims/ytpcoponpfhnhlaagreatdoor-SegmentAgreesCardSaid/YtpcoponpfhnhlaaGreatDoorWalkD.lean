/- Walks through the functions that the statement reaches, and the statement. Conditions: none. -/
import Derived.Test.YtpcoponpfhnhlaaGreatDoorWalkC
import Derived.Test.YtpcoponpfhnhlaaGreatDoorCxE
import Derived.Test.YtpcoponpfhnhlaaGreatDoorWalkB
set_option maxRecDepth 100000
set_option linter.unusedVariables false
set_option linter.unusedSimpArgs false
namespace Go.Proofs.YtpcoponpfhnhlaaGreatDoor
open Go.Cx
variable {w : World} {h : CH}
theorem span_und : ∃ fs : Array Field, tab.und 64 = some (.struct fs) := ⟨_, rfl⟩
end Go.Proofs.YtpcoponpfhnhlaaGreatDoor
set_option maxRecDepth 100000
set_option linter.unusedVariables false
set_option linter.unusedSimpArgs false
namespace Go.Proofs.YtpcoponpfhnhlaaGreatDoor
open Go.Cx
variable {w : World} {h : CH}
end Go.Proofs.YtpcoponpfhnhlaaGreatDoor
set_option maxRecDepth 100000
set_option linter.unusedVariables false
set_option linter.unusedSimpArgs false
namespace Go.Proofs.YtpcoponpfhnhlaaGreatDoor
open Go.Cx
variable {w : World} {h : CH}
theorem fn_classes1 : tab.fn 38 = some Tryz.f38 := by kernel_rfl
theorem classes1_calls (x : SpanD) (k : Int) : CalF (X w) 38 [spanV x, .int .i64 k] h fun r h' => r = .ret (.int .i64 (cmpD k x)) ∧ Gr h h' := by
  refine CalF.wf fun hwf => ?_
  refine CalF.intro fn_classes1 rfl (Nat.le_of_ble_eq_true rfl) ?_
  repeat (first | refine zA ?_ | refine zB ?_ | refine zC ?_ | refine zD ?_ | refine zE ?_ | refine zF ?_ | refine zG rfl ?_ | refine zH ?_ | refine zI ?_ | refine zJ ?_ | refine zK ?_ | refine zL ?_ | refine zM ?_ | refine zN ?_ | refine zO ?_)
  refine pops.box (cs := [.int .i64 x.lo, .int .i64 x.hi, .int .i64 x.value]) rfl rfl rfl rfl rfl rfl rfl hwf fun b h1 hb hwf1 g1 hc => ?_
  refine zP rfl rfl rfl rfl rfl ?_
  refine pops.nil ?_
  repeat (first | refine zA ?_ | refine zB ?_ | refine zC ?_ | refine zD ?_ | refine zE ?_ | refine zF ?_ | refine zG rfl ?_ | refine zH ?_ | refine zI ?_ | refine zJ ?_ | refine zK ?_ | refine zL ?_ | refine zM ?_ | refine zN ?_ | refine zO ?_)
  repeat (first | refine zT rfl rfl rfl rfl rfl rfl (cbin_inc (by omega)) ?_ | refine zY rfl rfl rfl rfl rfl rfl ?_ | refine zQ rfl rfl rfl ?_ | refine zR rfl rfl rfl rfl rfl (by first | assumption | exact cload_of (by assumption) rfl) ?_ | refine zS rfl rfl rfl rfl rfl rfl rfl rfl (by first | exact SlA.len (by assumption) rfl | exact Sl.map (by assumption) rfl | exact Sl.len (by assumption) rfl) ?_)
  refine zZ rfl rfl rfl rfl rfl (fun q1 => ?_) (fun q1 => ?_)
  · have q1 := of_decide_eq_true q1
    repeat (first | refine zT rfl rfl rfl rfl rfl rfl (cbin_inc (by omega)) ?_ | refine zP rfl rfl rfl rfl rfl ?_ | refine zQ rfl rfl rfl ?_ | refine zR rfl rfl rfl rfl rfl (by first | assumption | exact cload_of (by assumption) rfl) ?_ | refine zS rfl rfl rfl rfl rfl rfl rfl rfl (by first | exact SlA.len (by assumption) rfl | exact Sl.map (by assumption) rfl | exact Sl.len (by assumption) rfl) ?_)
    refine pops.nil ?_
    repeat (first | refine zA ?_ | refine zB ?_ | refine zC ?_ | refine zD ?_ | refine zE ?_ | refine zF ?_ | refine zG rfl ?_ | refine zH ?_ | refine zI ?_ | refine zJ ?_ | refine zK ?_ | refine zL ?_ | refine zM ?_ | refine zN ?_ | refine zO ?_)
    refine pcond.t rfl ?_
    repeat (first | refine zA ?_ | refine zB ?_ | refine zC ?_ | refine zD ?_ | refine zE ?_ | refine zF ?_ | refine zG rfl ?_ | refine zH ?_ | refine zI ?_ | refine zJ ?_ | refine zK ?_ | refine zL ?_ | refine zM ?_ | refine zN ?_ | refine zO ?_)
    repeat (first | refine zT rfl rfl rfl rfl rfl rfl (cbin_inc (by omega)) ?_ | refine zP rfl rfl rfl rfl rfl ?_ | refine zQ rfl rfl rfl ?_ | refine zR rfl rfl rfl rfl rfl (by first | assumption | exact cload_of (by assumption) rfl) ?_ | refine zS rfl rfl rfl rfl rfl rfl rfl rfl (by first | exact SlA.len (by assumption) rfl | exact Sl.map (by assumption) rfl | exact Sl.len (by assumption) rfl) ?_)
    refine pops.nil ?_
    repeat (first | refine zA ?_ | refine zB ?_ | refine zC ?_ | refine zD ?_ | refine zE ?_ | refine zF ?_ | refine zG rfl ?_ | refine zH ?_ | refine zI ?_ | refine zJ ?_ | refine zK ?_ | refine zL ?_ | refine zM ?_ | refine zN ?_ | refine zO ?_)
    refine pleave.r rfl ?_
    refine ⟨?_, g1⟩
    unfold cmpD
    rw [if_pos q1]
  have q1 := of_decide_eq_false q1
  repeat (first | refine zT rfl rfl rfl rfl rfl rfl (cbin_inc (by omega)) ?_ | refine zP rfl rfl rfl rfl rfl ?_ | refine zQ rfl rfl rfl ?_ | refine zR rfl rfl rfl rfl rfl (by first | assumption | exact cload_of (by assumption) rfl) ?_ | refine zS rfl rfl rfl rfl rfl rfl rfl rfl (by first | exact SlA.len (by assumption) rfl | exact Sl.map (by assumption) rfl | exact Sl.len (by assumption) rfl) ?_)
  refine pops.nil ?_
  repeat (first | refine zA ?_ | refine zB ?_ | refine zC ?_ | refine zD ?_ | refine zE ?_ | refine zF ?_ | refine zG rfl ?_ | refine zH ?_ | refine zI ?_ | refine zJ ?_ | refine zK ?_ | refine zL ?_ | refine zM ?_ | refine zN ?_ | refine zO ?_)
  refine pcond.f rfl ?_
  repeat (first | refine zA ?_ | refine zB ?_ | refine zC ?_ | refine zD ?_ | refine zE ?_ | refine zF ?_ | refine zG rfl ?_ | refine zH ?_ | refine zI ?_ | refine zJ ?_ | refine zK ?_ | refine zL ?_ | refine zM ?_ | refine zN ?_ | refine zO ?_)
  repeat (first | refine zT rfl rfl rfl rfl rfl rfl (cbin_inc (by omega)) ?_ | refine zY rfl rfl rfl rfl rfl rfl ?_ | refine zQ rfl rfl rfl ?_ | refine zR rfl rfl rfl rfl rfl (by first | assumption | exact cload_of (by assumption) rfl) ?_ | refine zS rfl rfl rfl rfl rfl rfl rfl rfl (by first | exact SlA.len (by assumption) rfl | exact Sl.map (by assumption) rfl | exact Sl.len (by assumption) rfl) ?_)
  refine zZ rfl rfl rfl rfl rfl (fun q2 => ?_) (fun q2 => ?_)
  · have q2 := of_decide_eq_true q2
    repeat (first | refine zT rfl rfl rfl rfl rfl rfl (cbin_inc (by omega)) ?_ | refine zP rfl rfl rfl rfl rfl ?_ | refine zQ rfl rfl rfl ?_ | refine zR rfl rfl rfl rfl rfl (by first | assumption | exact cload_of (by assumption) rfl) ?_ | refine zS rfl rfl rfl rfl rfl rfl rfl rfl (by first | exact SlA.len (by assumption) rfl | exact Sl.map (by assumption) rfl | exact Sl.len (by assumption) rfl) ?_)
    refine pops.nil ?_
    repeat (first | refine zA ?_ | refine zB ?_ | refine zC ?_ | refine zD ?_ | refine zE ?_ | refine zF ?_ | refine zG rfl ?_ | refine zH ?_ | refine zI ?_ | refine zJ ?_ | refine zK ?_ | refine zL ?_ | refine zM ?_ | refine zN ?_ | refine zO ?_)
    refine pcond.t rfl ?_
    repeat (first | refine zA ?_ | refine zB ?_ | refine zC ?_ | refine zD ?_ | refine zE ?_ | refine zF ?_ | refine zG rfl ?_ | refine zH ?_ | refine zI ?_ | refine zJ ?_ | refine zK ?_ | refine zL ?_ | refine zM ?_ | refine zN ?_ | refine zO ?_)
    repeat (first | refine zT rfl rfl rfl rfl rfl rfl (cbin_inc (by omega)) ?_ | refine zP rfl rfl rfl rfl rfl ?_ | refine zQ rfl rfl rfl ?_ | refine zR rfl rfl rfl rfl rfl (by first | assumption | exact cload_of (by assumption) rfl) ?_ | refine zS rfl rfl rfl rfl rfl rfl rfl rfl (by first | exact SlA.len (by assumption) rfl | exact Sl.map (by assumption) rfl | exact Sl.len (by assumption) rfl) ?_)
    refine pops.nil ?_
    repeat (first | refine zA ?_ | refine zB ?_ | refine zC ?_ | refine zD ?_ | refine zE ?_ | refine zF ?_ | refine zG rfl ?_ | refine zH ?_ | refine zI ?_ | refine zJ ?_ | refine zK ?_ | refine zL ?_ | refine zM ?_ | refine zN ?_ | refine zO ?_)
    refine pleave.r rfl ?_
    refine ⟨?_, g1⟩
    unfold cmpD
    rw [if_neg q1, if_pos (by omega)]
  have q2 := of_decide_eq_false q2
  repeat (first | refine zT rfl rfl rfl rfl rfl rfl (cbin_inc (by omega)) ?_ | refine zP rfl rfl rfl rfl rfl ?_ | refine zQ rfl rfl rfl ?_ | refine zR rfl rfl rfl rfl rfl (by first | assumption | exact cload_of (by assumption) rfl) ?_ | refine zS rfl rfl rfl rfl rfl rfl rfl rfl (by first | exact SlA.len (by assumption) rfl | exact Sl.map (by assumption) rfl | exact Sl.len (by assumption) rfl) ?_)
  refine pops.nil ?_
  repeat (first | refine zA ?_ | refine zB ?_ | refine zC ?_ | refine zD ?_ | refine zE ?_ | refine zF ?_ | refine zG rfl ?_ | refine zH ?_ | refine zI ?_ | refine zJ ?_ | refine zK ?_ | refine zL ?_ | refine zM ?_ | refine zN ?_ | refine zO ?_)
  refine pcond.f rfl ?_
  repeat (first | refine zA ?_ | refine zB ?_ | refine zC ?_ | refine zD ?_ | refine zE ?_ | refine zF ?_ | refine zG rfl ?_ | refine zH ?_ | refine zI ?_ | refine zJ ?_ | refine zK ?_ | refine zL ?_ | refine zM ?_ | refine zN ?_ | refine zO ?_)
  repeat (first | refine zT rfl rfl rfl rfl rfl rfl (cbin_inc (by omega)) ?_ | refine zP rfl rfl rfl rfl rfl ?_ | refine zQ rfl rfl rfl ?_ | refine zR rfl rfl rfl rfl rfl (by first | assumption | exact cload_of (by assumption) rfl) ?_ | refine zS rfl rfl rfl rfl rfl rfl rfl rfl (by first | exact SlA.len (by assumption) rfl | exact Sl.map (by assumption) rfl | exact Sl.len (by assumption) rfl) ?_)
  refine pops.nil ?_
  repeat (first | refine zA ?_ | refine zB ?_ | refine zC ?_ | refine zD ?_ | refine zE ?_ | refine zF ?_ | refine zG rfl ?_ | refine zH ?_ | refine zI ?_ | refine zJ ?_ | refine zK ?_ | refine zL ?_ | refine zM ?_ | refine zN ?_ | refine zO ?_)
  refine pleave.r rfl ?_
  refine ⟨?_, g1⟩
  unfold cmpD
  rw [if_neg q1, if_neg (by omega)]
theorem fn_search : tab.fn 37 = some Tryz.f37 := by kernel_rfl
theorem search_calls {v : Value} {l : List SpanD} (k : Int) (hS : SortedD l) (hs : SlSp tab 64 h v l) (hlen : l.length < 1000000) :
    CalF (X w) 37 [v, .int .i64 k, .func (.func 38) #[] #[]] h fun r h' => (∃ (i : Nat) (ok : Bool), r = .ret (.tuple #[.int .i64 (i : Int), .bool ok]) ∧ (ok = true → ∃ x, l[i]? = some x ∧ insideB k x = true) ∧ (ok = false → ∀ x, x ∈ l → insideB k x = false)) ∧ Gr h h' := by
  refine CalF.wf fun hwf => ?_
  refine CalF.intro fn_search rfl (Nat.le_of_ble_eq_true rfl) ?_
  repeat (first | refine zA ?_ | refine zB ?_ | refine zC ?_ | refine zD ?_ | refine zE ?_ | refine zF ?_ | refine zG rfl ?_ | refine zH ?_ | refine zI ?_ | refine zJ ?_ | refine zK ?_ | refine zL ?_ | refine zM ?_ | refine zN ?_ | refine zO ?_)
  refine zP rfl rfl rfl rfl rfl ?_
  refine zP rfl rfl rfl rfl rfl ?_
  refine pops.nil ?_
  repeat (first | refine zA ?_ | refine zB ?_ | refine zC ?_ | refine zD ?_ | refine zE ?_ | refine zF ?_ | refine zG rfl ?_ | refine zH ?_ | refine zI ?_ | refine zJ ?_ | refine zK ?_ | refine zL ?_ | refine zM ?_ | refine zN ?_ | refine zO ?_)
  refine zP rfl rfl rfl rfl rfl ?_
  refine zS rfl rfl rfl rfl rfl rfl rfl rfl (Sl.map hs rfl) ?_
  refine zP rfl rfl rfl rfl rfl ?_
  refine pops.nil ?_
  repeat (first | refine zA ?_ | refine zB ?_ | refine zC ?_ | refine zD ?_ | refine zE ?_ | refine zF ?_ | refine zG rfl ?_ | refine zH ?_ | refine zI ?_ | refine zJ ?_ | refine zK ?_ | refine zL ?_ | refine zM ?_ | refine zN ?_ | refine zO ?_)
  repeat (first | refine zT rfl rfl rfl rfl rfl rfl (cbin_inc (by omega)) ?_ | refine zP rfl rfl rfl rfl rfl ?_ | refine zQ rfl rfl rfl ?_ | refine zR rfl rfl rfl rfl rfl (by first | assumption | exact cload_of (by assumption) rfl) ?_ | refine zS rfl rfl rfl rfl rfl rfl rfl rfl (by first | exact SlA.len (by assumption) rfl | exact Sl.map (by assumption) rfl | exact Sl.len (by assumption) rfl) ?_)
  refine pops.nil ?_
  repeat (first | refine zA ?_ | refine zB ?_ | refine zC ?_ | refine zD ?_ | refine zE ?_ | refine zF ?_ | refine zG rfl ?_ | refine zH ?_ | refine zI ?_ | refine zJ ?_ | refine zK ?_ | refine zL ?_ | refine zM ?_ | refine zN ?_ | refine zO ?_)
  refine Loops.ind 6 (fun s : Nat × Nat => [(0, v), (1, .int .i64 k), (2, .func (.func 38) #[] #[]), (8, .int .i64 (l.length : Nat)), (9, .int .i64 (s.1 : Nat)), (10, .int .i64 (s.2 : Nat))])
    (fun s h' => s.1 ≤ s.2 ∧ s.2 ≤ l.length ∧ Gr h h' ∧ (∀ (m : Nat) x, m < s.1 → l[m]? = some x → x.hi < k) ∧ ∀ (m : Nat) x, s.2 ≤ m → l[m]? = some x → k ≤ x.hi) (fun s => s.2 - s.1) (0, l.length) (by decide) ⟨rfl, rfl, rfl, rfl, rfl, rfl, trivial⟩ ⟨Nat.zero_le _, Nat.le_refl _, Gr.refl _, all_none, fun m x hm hx => by have := (List.getElem?_eq_some_iff.1 hx).1; have hm' : l.length ≤ m := hm; omega⟩ ?_
  rintro ⟨i, j⟩ z h' hwf' ⟨hij, hj, g, hlo, hhi⟩
  have hij : i ≤ j := hij
  have hj : j ≤ l.length := hj
  replace hs := Sl.gr hs hwf g
  repeat (first | refine zA ?_ | refine zB ?_ | refine zC ?_ | refine zD ?_ | refine zE ?_ | refine zF ?_ | refine zG rfl ?_ | refine zH ?_ | refine zI ?_ | refine zJ ?_ | refine zK ?_ | refine zL ?_ | refine zM ?_ | refine zN ?_ | refine zO ?_)
  repeat (first | refine zT rfl rfl rfl rfl rfl rfl (cbin_inc (by omega)) ?_ | refine zP rfl rfl rfl rfl rfl ?_ | refine zQ rfl rfl rfl ?_ | refine zR rfl rfl rfl rfl rfl (by first | assumption | exact cload_of (by assumption) rfl) ?_ | refine zS rfl rfl rfl rfl rfl rfl rfl rfl (by first | exact SlA.len (by assumption) rfl | exact Sl.map (by assumption) rfl | exact Sl.len (by assumption) rfl) ?_)
  refine pops.nil ?_
  repeat (first | refine zA ?_ | refine zB ?_ | refine zC ?_ | refine zD ?_ | refine zE ?_ | refine zF ?_ | refine zG rfl ?_ | refine zH ?_ | refine zI ?_ | refine zJ ?_ | refine zK ?_ | refine zL ?_ | refine zM ?_ | refine zN ?_ | refine zO ?_)
  refine pcond.d (p := (i : Int) < (j : Nat)) rfl (fun hlt => ?_) (fun hge => ?_)
  · have hlt : i < j := by omega
    obtain ⟨m, hm⟩ : ∃ m, (i + j) / 2 = m := ⟨_, rfl⟩
    obtain ⟨x, hx⟩ : ∃ x, l[m]? = some x := ⟨_, List.getElem?_eq_getElem (by omega)⟩
    repeat (first | refine zA ?_ | refine zB ?_ | refine zC ?_ | refine zD ?_ | refine zE ?_ | refine zF ?_ | refine zG rfl ?_ | refine zH ?_ | refine zI ?_ | refine zJ ?_ | refine zK ?_ | refine zL ?_ | refine zM ?_ | refine zN ?_ | refine zO ?_)
    refine zP rfl rfl rfl rfl rfl ?_
    refine zP rfl rfl rfl rfl rfl ?_
    refine zT rfl rfl rfl rfl rfl rfl (cbin_addN (n := i) (m := j) (by omega)) ?_
    refine pops.conv rfl rfl rfl rfl rfl (cconv_u64 (n := i + j) rfl rfl (by omega)) ?_
    refine zT rfl rfl rfl rfl rfl rfl (cbin_half (n := i + j)) ?_
    rw [hm]
    refine pops.conv rfl rfl rfl rfl rfl (cconv_i64 (n := m) rfl rfl (by omega)) ?_
    refine zP rfl rfl rfl rfl rfl ?_
    refine pops.nil ?_
    repeat (first | refine zA ?_ | refine zB ?_ | refine zC ?_ | refine zD ?_ | refine zE ?_ | refine zF ?_ | refine zG rfl ?_ | refine zH ?_ | refine zI ?_ | refine zJ ?_ | refine zK ?_ | refine zL ?_ | refine zM ?_ | refine zN ?_ | refine zO ?_)
    refine zP rfl rfl rfl rfl rfl ?_
    refine zP rfl rfl rfl rfl rfl ?_
    refine zP rfl rfl rfl rfl rfl ?_
    refine pops.atI (f := spanV) rfl rfl rfl rfl rfl rfl rfl hs hx fun q hq => ?_
    refine zR rfl rfl rfl rfl rfl (by first | assumption | exact cload_of (by assumption) rfl) ?_
    refine zP rfl rfl rfl rfl rfl ?_
    refine pops.callG rfl rfl rfl rfl rfl fn_classes1 rfl rfl rfl (classes1_calls x k) fun h2 hwf2 g2 => ?_
    have hxo := hS.2 x (List.mem_of_getElem? hx)
    refine zZ rfl rfl rfl rfl rfl (fun q1 => ?_) (fun q1 => ?_)
    · have q1 := (cmp_lt hxo).1 (of_decide_eq_true q1)
      refine pops.nil ?_
      repeat (first | refine zA ?_ | refine zB ?_ | refine zC ?_ | refine zD ?_ | refine zE ?_ | refine zF ?_ | refine zG rfl ?_ | refine zH ?_ | refine zI ?_ | refine zJ ?_ | refine zK ?_ | refine zL ?_ | refine zM ?_ | refine zN ?_ | refine zO ?_)
      refine pcond.t rfl ?_
      repeat (first | refine zA ?_ | refine zB ?_ | refine zC ?_ | refine zD ?_ | refine zE ?_ | refine zF ?_ | refine zG rfl ?_ | refine zH ?_ | refine zI ?_ | refine zJ ?_ | refine zK ?_ | refine zL ?_ | refine zM ?_ | refine zN ?_ | refine zO ?_)
      refine zP rfl rfl rfl rfl rfl ?_
      refine zT rfl rfl rfl rfl rfl rfl (cbin_inc (i := m) (by omega)) ?_
      repeat (first | refine zT rfl rfl rfl rfl rfl rfl (cbin_inc (by omega)) ?_ | refine zP rfl rfl rfl rfl rfl ?_ | refine zQ rfl rfl rfl ?_ | refine zR rfl rfl rfl rfl rfl (by first | assumption | exact cload_of (by assumption) rfl) ?_ | refine zS rfl rfl rfl rfl rfl rfl rfl rfl (by first | exact SlA.len (by assumption) rfl | exact Sl.map (by assumption) rfl | exact Sl.len (by assumption) rfl) ?_)
      refine pops.nil ?_
      repeat (first | refine zA ?_ | refine zB ?_ | refine zC ?_ | refine zD ?_ | refine zE ?_ | refine zF ?_ | refine zG rfl ?_ | refine zH ?_ | refine zI ?_ | refine zJ ?_ | refine zK ?_ | refine zL ?_ | refine zM ?_ | refine zN ?_ | refine zO ?_)
      refine ⟨_, (m + 1, j), rfl, ⟨rfl, rfl, rfl, rfl, rfl, rfl, trivial⟩, (by show j - (m + 1) < j - i; omega), (by show m + 1 ≤ j; omega), hj, g.trans g2, fun m' y hm' hy => ?_, hhi⟩
      have hm' : m' < m + 1 := hm'
      rcases Nat.lt_or_ge m' m with h1 | h1
      · have := hS.1 m' m y x h1 hy hx; omega
      · obtain rfl : m' = m := by omega
        rw [hx] at hy; cases hy; exact q1
    · have q1 : ¬ x.hi < k := fun hh => absurd ((cmp_lt hxo).2 hh) (of_decide_eq_false q1)
      refine pops.nil ?_
      repeat (first | refine zA ?_ | refine zB ?_ | refine zC ?_ | refine zD ?_ | refine zE ?_ | refine zF ?_ | refine zG rfl ?_ | refine zH ?_ | refine zI ?_ | refine zJ ?_ | refine zK ?_ | refine zL ?_ | refine zM ?_ | refine zN ?_ | refine zO ?_)
      refine pcond.f rfl ?_
      repeat (first | refine zA ?_ | refine zB ?_ | refine zC ?_ | refine zD ?_ | refine zE ?_ | refine zF ?_ | refine zG rfl ?_ | refine zH ?_ | refine zI ?_ | refine zJ ?_ | refine zK ?_ | refine zL ?_ | refine zM ?_ | refine zN ?_ | refine zO ?_)
      repeat (first | refine zT rfl rfl rfl rfl rfl rfl (cbin_inc (by omega)) ?_ | refine zP rfl rfl rfl rfl rfl ?_ | refine zQ rfl rfl rfl ?_ | refine zR rfl rfl rfl rfl rfl (by first | assumption | exact cload_of (by assumption) rfl) ?_ | refine zS rfl rfl rfl rfl rfl rfl rfl rfl (by first | exact SlA.len (by assumption) rfl | exact Sl.map (by assumption) rfl | exact Sl.len (by assumption) rfl) ?_)
      refine pops.nil ?_
      repeat (first | refine zA ?_ | refine zB ?_ | refine zC ?_ | refine zD ?_ | refine zE ?_ | refine zF ?_ | refine zG rfl ?_ | refine zH ?_ | refine zI ?_ | refine zJ ?_ | refine zK ?_ | refine zL ?_ | refine zM ?_ | refine zN ?_ | refine zO ?_)
      refine ⟨_, (i, m), rfl, ⟨rfl, rfl, rfl, rfl, rfl, rfl, trivial⟩, (by show m - i < j - i; omega), (by show i ≤ m; omega), (by show m ≤ l.length; omega), g.trans g2, hlo, fun m' y hm' hy => ?_⟩
      have hm' : m ≤ m' := hm'
      rcases Nat.lt_or_ge m m' with h1 | h1
      · have := hS.1 m m' x y h1 hx hy
        have := hS.2 y (List.mem_of_getElem? hy)
        omega
      · obtain rfl : m' = m := by omega
        rw [hx] at hy; cases hy; omega
  · have hge : i = j := by omega
    subst hge
    repeat (first | refine zA ?_ | refine zB ?_ | refine zC ?_ | refine zD ?_ | refine zE ?_ | refine zF ?_ | refine zG rfl ?_ | refine zH ?_ | refine zI ?_ | refine zJ ?_ | refine zK ?_ | refine zL ?_ | refine zM ?_ | refine zN ?_ | refine zO ?_)
    refine zP rfl rfl rfl rfl rfl ?_
    refine zP rfl rfl rfl rfl rfl ?_
    refine zP rfl rfl rfl rfl rfl ?_
    rcases Nat.lt_or_ge i l.length with hil | hil
    · obtain ⟨x, hx⟩ : ∃ x, l[i]? = some x := ⟨_, List.getElem?_eq_getElem hil⟩
      refine zZ rfl rfl rfl rfl rfl (fun q1 => ?_) (fun q1 => ?_)
      rotate_left
      · have q1 := of_decide_eq_false q1; omega
      refine zP rfl rfl rfl rfl rfl ?_
      refine zP rfl rfl rfl rfl rfl ?_
      refine zP rfl rfl rfl rfl rfl ?_
      refine zP rfl rfl rfl rfl rfl ?_
      refine pops.atI (f := spanV) rfl rfl rfl rfl rfl rfl rfl hs hx fun q hq => ?_
      refine zR rfl rfl rfl rfl rfl (by first | assumption | exact cload_of (by assumption) rfl) ?_
      refine zP rfl rfl rfl rfl rfl ?_
      refine pops.callG rfl rfl rfl rfl rfl fn_classes1 rfl rfl rfl (classes1_calls x k) fun h2 hwf2 g2 => ?_
      refine zZ rfl rfl rfl rfl rfl (fun q2 => ?_) (fun q2 => ?_)
      · have q2 := cmp_eq.1 (of_decide_eq_true q2)
        repeat (first | refine zT rfl rfl rfl rfl rfl rfl (cbin_inc (by omega)) ?_ | refine zP rfl rfl rfl rfl rfl ?_ | refine zQ rfl rfl rfl ?_ | refine zR rfl rfl rfl rfl rfl (by first | assumption | exact cload_of (by assumption) rfl) ?_ | refine zS rfl rfl rfl rfl rfl rfl rfl rfl (by first | exact SlA.len (by assumption) rfl | exact Sl.map (by assumption) rfl | exact Sl.len (by assumption) rfl) ?_)
        refine pops.nil ?_
        repeat (first | refine zA ?_ | refine zB ?_ | refine zC ?_ | refine zD ?_ | refine zE ?_ | refine zF ?_ | refine zG rfl ?_ | refine zH ?_ | refine zI ?_ | refine zJ ?_ | refine zK ?_ | refine zL ?_ | refine zM ?_ | refine zN ?_ | refine zO ?_)
        refine pleave.r rfl ?_
        exact ⟨⟨i, true, rfl, fun _ => ⟨x, hx, q2⟩, fun hh => by cases hh⟩, g.trans g2⟩
      · have q2 : insideB k x = false := by
          cases hh : insideB k x with
          | false => rfl
          | true => exact absurd (cmp_eq.2 hh) (of_decide_eq_false q2)
        repeat (first | refine zT rfl rfl rfl rfl rfl rfl (cbin_inc (by omega)) ?_ | refine zP rfl rfl rfl rfl rfl ?_ | refine zQ rfl rfl rfl ?_ | refine zR rfl rfl rfl rfl rfl (by first | assumption | exact cload_of (by assumption) rfl) ?_ | refine zS rfl rfl rfl rfl rfl rfl rfl rfl (by first | exact SlA.len (by assumption) rfl | exact Sl.map (by assumption) rfl | exact Sl.len (by assumption) rfl) ?_)
        refine pops.nil ?_
        repeat (first | refine zA ?_ | refine zB ?_ | refine zC ?_ | refine zD ?_ | refine zE ?_ | refine zF ?_ | refine zG rfl ?_ | refine zH ?_ | refine zI ?_ | refine zJ ?_ | refine zK ?_ | refine zL ?_ | refine zM ?_ | refine zN ?_ | refine zO ?_)
        refine pleave.r rfl ?_
        refine ⟨⟨i, false, rfl, (fun hh => by cases hh), fun _ => half_no hS hlo fun y hy => ?_⟩, g.trans g2⟩
        rw [hx] at hy
        cases hy
        exact ⟨hhi i x (Nat.le_refl _) hx, q2⟩
    · refine zZ rfl rfl rfl rfl rfl (fun q1 => ?_) (fun q1 => ?_)
      · have q1 := of_decide_eq_true q1; omega
      repeat (first | refine zT rfl rfl rfl rfl rfl rfl (cbin_inc (by omega)) ?_ | refine zP rfl rfl rfl rfl rfl ?_ | refine zQ rfl rfl rfl ?_ | refine zR rfl rfl rfl rfl rfl (by first | assumption | exact cload_of (by assumption) rfl) ?_ | refine zS rfl rfl rfl rfl rfl rfl rfl rfl (by first | exact SlA.len (by assumption) rfl | exact Sl.map (by assumption) rfl | exact Sl.len (by assumption) rfl) ?_)
      refine pops.nil ?_
      repeat (first | refine zA ?_ | refine zB ?_ | refine zC ?_ | refine zD ?_ | refine zE ?_ | refine zF ?_ | refine zG rfl ?_ | refine zH ?_ | refine zI ?_ | refine zJ ?_ | refine zK ?_ | refine zL ?_ | refine zM ?_ | refine zN ?_ | refine zO ?_)
      refine pleave.r rfl ?_
      refine ⟨⟨i, false, rfl, (fun hh => by cases hh), fun _ => half_no hS hlo fun y hy => ?_⟩, g⟩
      have := (List.getElem?_eq_some_iff.1 hy).1
      omega
end Go.Proofs.YtpcoponpfhnhlaaGreatDoor
set_option maxRecDepth 100000
set_option linter.unusedVariables false
set_option linter.unusedSimpArgs false
namespace Go.Proofs.YtpcoponpfhnhlaaGreatDoor
open Go.Cx
variable {w : World} {h : CH}
theorem ints_nil : SlI tab ks.int h (.slice none 0 0) [] := ⟨by decide, none, 0, rfl, fun i x hx => by simp at hx⟩
theorem counted_spans {p : PropD} {n : Nat} (hl : p.spans.length < n) : (countedD p).spans.length < n := by
  unfold countedD
  cases tt (PropP p) with
  | true => exact hl
  | false => show (0 : Nat) < n; omega
theorem fn_SClasses : tab.fn 17 = some Tryz.f17 := by kernel_rfl
set_option maxHeartbeats 1000000 in
theorem SClasses_calls {vp vt vx : Value} {p : PropD} {t : TabD} {text : List Int} (hp : PropV tab ks.str 64 h vp p) (ht : TabV tab ks h vt t) (hxx : SlI tab ks.int h vx text) (hpl : TextsLt p.names) (htl : TextsLt t.classes) (hxl : text.length ≤ 1000) (hsl : p.spans.length < 1000000) :
    CalF (X w) 17 [vp, vt, vx] h fun r h' => (∃ u, r = .ret u ∧ SlI tab ks.int h' u (clsD p t text)) ∧ Gr h h' := by
  refine CalF.wf fun hwf => ?_
  have hpV := hp
  have htV := ht
  replace hsl := counted_spans hsl
  obtain ⟨c, s, rfl, oc, os, hpn, hps⟩ := hp
  obtain ⟨c', a, x, y, x', y', rfl, ho, hcl, hac, hx, hy, hx', hy'⟩ := ht
  clear hac hx hy hx' hy' hpn hps
  simp only [Bool.and_eq_true] at ho
  obtain ⟨sfs, hsu⟩ := span_und
  refine CalF.intro fn_SClasses rfl (Nat.le_of_ble_eq_true rfl) ?_
  repeat (first | refine zA ?_ | refine zB ?_ | refine zC ?_ | refine zD ?_ | refine zE ?_ | refine zF ?_ | refine zG rfl ?_ | refine zH ?_ | refine zI ?_ | refine zJ ?_ | refine zK ?_ | refine zL ?_ | refine zM ?_ | refine zN ?_ | refine zO ?_)
  refine pops.box (cs := [c, s]) rfl rfl rfl rfl (by simp [oc, os]) rfl rfl hwf fun b h1 hb hwf1 g1 hc => ?_
  refine pops.box (cs := [c', a, x, y, x', y']) rfl rfl rfl rfl (by simp [ho]) rfl rfl hwf1 fun bt h2 hbt hwf2 g2 hct => ?_
  have g02 := g1.trans g2
  have hbn := CH.lt hwf1 hc
  replace hc := g2.at hwf1 hc
  refine zP rfl rfl rfl rfl rfl ?_
  refine pops.nil ?_
  repeat (first | refine zA ?_ | refine zB ?_ | refine zC ?_ | refine zD ?_ | refine zE ?_ | refine zF ?_ | refine zG rfl ?_ | refine zH ?_ | refine zI ?_ | refine zJ ?_ | refine zK ?_ | refine zL ?_ | refine zM ?_ | refine zN ?_ | refine zO ?_)
  refine zR rfl rfl rfl rfl rfl (cload_of hct rfl) ?_
  refine pops.callG rfl rfl rfl rfl rfl fn_valid rfl rfl rfl (valid_calls (htV.gr hwf g02) htl) fun h3 hwf3 g3 => ?_
  replace hc := g3.at hwf2 hc
  replace hct := g3.at hwf2 hct
  have g03 := g02.trans g3
  cases hV : tt (ValidP t) with
  | false =>
    repeat (first | refine zT rfl rfl rfl rfl rfl rfl (cbin_inc (by omega)) ?_ | refine zP rfl rfl rfl rfl rfl ?_ | refine zQ rfl rfl rfl ?_ | refine zR rfl rfl rfl rfl rfl (by first | assumption | exact cload_of (by assumption) rfl) ?_ | refine zS rfl rfl rfl rfl rfl rfl rfl rfl (by first | exact SlA.len (by assumption) rfl | exact Sl.map (by assumption) rfl | exact Sl.len (by assumption) rfl) ?_)
    refine pops.nil ?_
    repeat (first | refine zA ?_ | refine zB ?_ | refine zC ?_ | refine zD ?_ | refine zE ?_ | refine zF ?_ | refine zG rfl ?_ | refine zH ?_ | refine zI ?_ | refine zJ ?_ | refine zK ?_ | refine zL ?_ | refine zM ?_ | refine zN ?_ | refine zO ?_)
    refine pcond.t rfl ?_
    repeat (first | refine zA ?_ | refine zB ?_ | refine zC ?_ | refine zD ?_ | refine zE ?_ | refine zF ?_ | refine zG rfl ?_ | refine zH ?_ | refine zI ?_ | refine zJ ?_ | refine zK ?_ | refine zL ?_ | refine zM ?_ | refine zN ?_ | refine zO ?_)
    repeat (first | refine zT rfl rfl rfl rfl rfl rfl (cbin_inc (by omega)) ?_ | refine zP rfl rfl rfl rfl rfl ?_ | refine zQ rfl rfl rfl ?_ | refine zR rfl rfl rfl rfl rfl (by first | assumption | exact cload_of (by assumption) rfl) ?_ | refine zS rfl rfl rfl rfl rfl rfl rfl rfl (by first | exact SlA.len (by assumption) rfl | exact Sl.map (by assumption) rfl | exact Sl.len (by assumption) rfl) ?_)
    refine pops.nil ?_
    repeat (first | refine zA ?_ | refine zB ?_ | refine zC ?_ | refine zD ?_ | refine zE ?_ | refine zF ?_ | refine zG rfl ?_ | refine zH ?_ | refine zI ?_ | refine zJ ?_ | refine zK ?_ | refine zL ?_ | refine zM ?_ | refine zN ?_ | refine zO ?_)
    refine pleave.r rfl ?_
    refine ⟨⟨_, rfl, ?_⟩, g03⟩
    rw [cls_bad (fun hh => by rw [tt_t hh] at hV; cases hV)]
    exact ints_nil
  | true =>
  have hV := tt_iff.1 hV
  repeat (first | refine zT rfl rfl rfl rfl rfl rfl (cbin_inc (by omega)) ?_ | refine zP rfl rfl rfl rfl rfl ?_ | refine zQ rfl rfl rfl ?_ | refine zR rfl rfl rfl rfl rfl (by first | assumption | exact cload_of (by assumption) rfl) ?_ | refine zS rfl rfl rfl rfl rfl rfl rfl rfl (by first | exact SlA.len (by assumption) rfl | exact Sl.map (by assumption) rfl | exact Sl.len (by assumption) rfl) ?_)
  refine pops.nil ?_
  repeat (first | refine zA ?_ | refine zB ?_ | refine zC ?_ | refine zD ?_ | refine zE ?_ | refine zF ?_ | refine zG rfl ?_ | refine zH ?_ | refine zI ?_ | refine zJ ?_ | refine zK ?_ | refine zL ?_ | refine zM ?_ | refine zN ?_ | refine zO ?_)
  refine pcond.f rfl ?_
  repeat (first | refine zA ?_ | refine zB ?_ | refine zC ?_ | refine zD ?_ | refine zE ?_ | refine zF ?_ | refine zG rfl ?_ | refine zH ?_ | refine zI ?_ | refine zJ ?_ | refine zK ?_ | refine zL ?_ | refine zM ?_ | refine zN ?_ | refine zO ?_)
  refine zR rfl rfl rfl rfl rfl (cload_of hc rfl) ?_
  refine pops.callG rfl rfl rfl rfl rfl fn_propValid rfl rfl rfl (propValid_calls (hpV.gr hwf g03) hpl) fun h4 hwf4 g4 => ?_
  have hbb4 : b < h4.n := by have := CH.lt hwf3 hc; have := g4.n; omega
  replace hc := g4.at hwf3 hc
  have hbt3 := CH.lt hwf3 hct
  replace hct := g4.at hwf3 hct
  have g04 := g03.trans g4
  have hbbt : b ≠ bt := by omega
  have hclX := hcl
  have lcl := SlS.lt hcl
  cases hP : tt (PropP p) with
  | false =>
    repeat (first | refine zT rfl rfl rfl rfl rfl rfl (cbin_inc (by omega)) ?_ | refine zP rfl rfl rfl rfl rfl ?_ | refine zQ rfl rfl rfl ?_ | refine zR rfl rfl rfl rfl rfl (by first | assumption | exact cload_of (by assumption) rfl) ?_ | refine zS rfl rfl rfl rfl rfl rfl rfl rfl (by first | exact SlA.len (by assumption) rfl | exact Sl.map (by assumption) rfl | exact Sl.len (by assumption) rfl) ?_)
    refine pops.nil ?_
    repeat (first | refine zA ?_ | refine zB ?_ | refine zC ?_ | refine zD ?_ | refine zE ?_ | refine zF ?_ | refine zG rfl ?_ | refine zH ?_ | refine zI ?_ | refine zJ ?_ | refine zK ?_ | refine zL ?_ | refine zM ?_ | refine zN ?_ | refine zO ?_)
    refine pcond.t rfl ?_
    repeat (first | refine zA ?_ | refine zB ?_ | refine zC ?_ | refine zD ?_ | refine zE ?_ | refine zF ?_ | refine zG rfl ?_ | refine zH ?_ | refine zI ?_ | refine zJ ?_ | refine zK ?_ | refine zL ?_ | refine zM ?_ | refine zN ?_ | refine zO ?_)
    refine pops.buildSlice (cs := [.string otherS]) rfl rfl rfl rfl rfl hwf4 fun b3 h5 hb3 hwf5 g5 hc3 => ?_
    refine zP rfl rfl rfl rfl rfl ?_
    refine pops.store (cs' := [.slice (some ⟨b3, 0, none⟩) 1 1, .slice none 0 0]) rfl rfl rfl rfl rfl (g5.at hwf4 hc) rfl rfl rfl rfl hwf5 fun h9 hwf9 u9 hc9 => ?_
    have g9 : Gr h h9 := (g04.trans g5).upd hb u9
    have hne : b3 ≠ b := by omega
    have hqv : PropV tab ks.str 64 h9 (.agg #[.slice (some ⟨b3, 0, none⟩) 1 1, .slice none 0 0]) (countedD p) := by
      unfold countedD
      rw [hP]
      show PropV tab ks.str 64 h9 _ otherD
      refine ⟨_, _, rfl, rfl, rfl, ?_, ⟨by decide, none, 0, rfl, fun i x hx => by simp [otherD] at hx⟩⟩
      exact Sl.one ((u9.get _ hne).trans hc3) rfl rfl rfl (by decide) rfl
    replace hct := (u9.get _ hbbt.symm).trans (g5.at hwf4 hct)
    replace hc := hc9
    refine pops.nil ?_
    repeat (first | refine zA ?_ | refine zB ?_ | refine zC ?_ | refine zD ?_ | refine zE ?_ | refine zF ?_ | refine zG rfl ?_ | refine zH ?_ | refine zI ?_ | refine zJ ?_ | refine zK ?_ | refine zL ?_ | refine zM ?_ | refine zN ?_ | refine zO ?_)
    have hO := hqv.one
    obtain ⟨oq1, oq2, hqn, hqs⟩ := hO
    replace hcl := Sl.gr hcl hwf g9
    replace hxx := Sl.gr hxx hwf g9
    refine pops.makeMap rfl rfl rfl rfl rfl hwf9 fun bm hA hbm hwfA gA hm => ?_
    replace hcl := Sl.gr hcl hwf9 gA
    repeat (first | refine zT rfl rfl rfl rfl rfl rfl (cbin_inc (by omega)) ?_ | refine zP rfl rfl rfl rfl rfl ?_ | refine zQ rfl rfl rfl ?_ | refine zR rfl rfl rfl rfl rfl (by first | assumption | exact cload_of (by assumption) rfl) ?_ | refine zS rfl rfl rfl rfl rfl rfl rfl rfl (by first | exact SlA.len (by assumption) rfl | exact Sl.map (by assumption) rfl | exact Sl.len (by assumption) rfl) ?_)
    refine pops.nil ?_
    repeat (first | refine zA ?_ | refine zB ?_ | refine zC ?_ | refine zD ?_ | refine zE ?_ | refine zF ?_ | refine zG rfl ?_ | refine zH ?_ | refine zI ?_ | refine zJ ?_ | refine zK ?_ | refine zL ?_ | refine zM ?_ | refine zN ?_ | refine zO ?_)
    refine zP rfl rfl rfl rfl rfl ?_
    refine zR rfl rfl rfl rfl rfl (cload_of (gA.at hwf9 hct) rfl) ?_
    refine zS rfl rfl rfl rfl rfl rfl rfl rfl (SlS.len hcl rfl) ?_
    refine zP rfl rfl rfl rfl rfl ?_
    refine pops.nil ?_
    repeat (first | refine zA ?_ | refine zB ?_ | refine zC ?_ | refine zD ?_ | refine zE ?_ | refine zF ?_ | refine zG rfl ?_ | refine zH ?_ | refine zI ?_ | refine zJ ?_ | refine zK ?_ | refine zL ?_ | refine zM ?_ | refine zN ?_ | refine zO ?_)
    refine Loops.ind 7 (fun i : Nat => [(2, vx), (3, .pointer (some ⟨b, 0, none⟩)), (7, .map (some bm)), (26, c'), (27, .int .i64 (t.classes.length : Nat)), (28, .int .i64 (i : Nat))])
      (fun i h' => i ≤ t.classes.length ∧ Gr h9 h' ∧ h'.get bm = some (.map (mkE 0 (esTo t.classes i)) (esTo t.classes i).length)) (fun i => t.classes.length - i) 0 (by decide) ⟨rfl, rfl, rfl, rfl, rfl, rfl, trivial⟩ ⟨Nat.zero_le _, gA, by rw [esTo_zero]; exact hm⟩ ?_
    clear hm
    rintro i z h' hwf' ⟨hi, g, hm⟩
    have hcl' : SlS tab 9 h' c' t.classes := by
      have := hclX
      exact Sl.gr this hwf (g9.trans g)
    repeat (first | refine zA ?_ | refine zB ?_ | refine zC ?_ | refine zD ?_ | refine zE ?_ | refine zF ?_ | refine zG rfl ?_ | refine zH ?_ | refine zI ?_ | refine zJ ?_ | refine zK ?_ | refine zL ?_ | refine zM ?_ | refine zN ?_ | refine zO ?_)
    repeat (first | refine zT rfl rfl rfl rfl rfl rfl (cbin_inc (by omega)) ?_ | refine zP rfl rfl rfl rfl rfl ?_ | refine zQ rfl rfl rfl ?_ | refine zR rfl rfl rfl rfl rfl (by first | assumption | exact cload_of (by assumption) rfl) ?_ | refine zS rfl rfl rfl rfl rfl rfl rfl rfl (by first | exact SlA.len (by assumption) rfl | exact Sl.map (by assumption) rfl | exact Sl.len (by assumption) rfl) ?_)
    refine pops.nil ?_
    repeat (first | refine zA ?_ | refine zB ?_ | refine zC ?_ | refine zD ?_ | refine zE ?_ | refine zF ?_ | refine zG rfl ?_ | refine zH ?_ | refine zI ?_ | refine zJ ?_ | refine zK ?_ | refine zL ?_ | refine zM ?_ | refine zN ?_ | refine zO ?_)
    refine pcond.d (p := (i : Int) < (t.classes.length : Nat)) rfl (fun hlt => ?_) (fun hge => ?_)
    · have hlt : i < t.classes.length := by omega
      obtain ⟨s1, hs1⟩ : ∃ x, t.classes[i]? = some x := ⟨_, List.getElem?_eq_getElem hlt⟩
      repeat (first | refine zA ?_ | refine zB ?_ | refine zC ?_ | refine zD ?_ | refine zE ?_ | refine zF ?_ | refine zG rfl ?_ | refine zH ?_ | refine zI ?_ | refine zJ ?_ | refine zK ?_ | refine zL ?_ | refine zM ?_ | refine zN ?_ | refine zO ?_)
      refine zP rfl rfl rfl rfl rfl ?_
      refine pops.atI (f := Value.string) rfl rfl rfl rfl rfl rfl rfl hcl' hs1 fun q hq => ?_
      refine zR rfl rfl rfl rfl rfl (by first | assumption | exact cload_of (by assumption) rfl) ?_
      repeat (first | refine zT rfl rfl rfl rfl rfl rfl (cbin_inc (by omega)) ?_ | refine zP rfl rfl rfl rfl rfl ?_ | refine zQ rfl rfl rfl ?_ | refine zR rfl rfl rfl rfl rfl (by first | assumption | exact cload_of (by assumption) rfl) ?_ | refine zS rfl rfl rfl rfl rfl rfl rfl rfl (by first | exact SlA.len (by assumption) rfl | exact Sl.map (by assumption) rfl | exact Sl.len (by assumption) rfl) ?_)
      refine pops.nil ?_
      repeat (first | refine zA ?_ | refine zB ?_ | refine zC ?_ | refine zD ?_ | refine zE ?_ | refine zF ?_ | refine zG rfl ?_ | refine zH ?_ | refine zI ?_ | refine zJ ?_ | refine zK ?_ | refine zL ?_ | refine zM ?_ | refine zN ?_ | refine zO ?_)
      repeat (first | refine zT rfl rfl rfl rfl rfl rfl (cbin_inc (by omega)) ?_ | refine zP rfl rfl rfl rfl rfl ?_ | refine zQ rfl rfl rfl ?_ | refine zR rfl rfl rfl rfl rfl (by first | assumption | exact cload_of (by assumption) rfl) ?_ | refine zS rfl rfl rfl rfl rfl rfl rfl rfl (by first | exact SlA.len (by assumption) rfl | exact Sl.map (by assumption) rfl | exact Sl.len (by assumption) rfl) ?_)
      refine pops.putNew (kt := 9) (et := 3) rfl rfl rfl rfl rfl rfl rfl rfl hm (esTo_new hs1 hV.1.2.1) hwf' fun h4 hwf4 u4 hm4 => ?_
      refine pops.nil ?_
      repeat (first | refine zA ?_ | refine zB ?_ | refine zC ?_ | refine zD ?_ | refine zE ?_ | refine zF ?_ | refine zG rfl ?_ | refine zH ?_ | refine zI ?_ | refine zJ ?_ | refine zK ?_ | refine zL ?_ | refine zM ?_ | refine zN ?_ | refine zO ?_)
      repeat (first | refine zT rfl rfl rfl rfl rfl rfl (cbin_inc (by omega)) ?_ | refine zP rfl rfl rfl rfl rfl ?_ | refine zQ rfl rfl rfl ?_ | refine zR rfl rfl rfl rfl rfl (by first | assumption | exact cload_of (by assumption) rfl) ?_ | refine zS rfl rfl rfl rfl rfl rfl rfl rfl (by first | exact SlA.len (by assumption) rfl | exact Sl.map (by assumption) rfl | exact Sl.len (by assumption) rfl) ?_)
      refine pops.nil ?_
      refine .n ⟨_, i + 1, rfl, ⟨rfl, rfl, rfl, rfl, rfl, rfl, trivial⟩, (by show t.classes.length - (i + 1) < t.classes.length - i; omega), by omega, g.upd hbm u4, ?_⟩
      rw [esTo_succ hs1]
      exact hm4
    · have hi' : i = t.classes.length := by omega
      subst hi'
      generalize hBe : h' = hB at *
      have gB := g
      have hwfB := hwf'
      clear g
      have hbmB := CH.lt hwf' hm
      repeat (first | refine zA ?_ | refine zB ?_ | refine zC ?_ | refine zD ?_ | refine zE ?_ | refine zF ?_ | refine zG rfl ?_ | refine zH ?_ | refine zI ?_ | refine zJ ?_ | refine zK ?_ | refine zL ?_ | refine zM ?_ | refine zN ?_ | refine zO ?_)
      repeat (first | refine zT rfl rfl rfl rfl rfl rfl (cbin_inc (by omega)) ?_ | refine zP rfl rfl rfl rfl rfl ?_ | refine zQ rfl rfl rfl ?_ | refine zR rfl rfl rfl rfl rfl (by first | assumption | exact cload_of (by assumption) rfl) ?_ | refine zS rfl rfl rfl rfl rfl rfl rfl rfl (by first | exact SlA.len (by assumption) rfl | exact Sl.map (by assumption) rfl | exact Sl.len (by assumption) rfl) ?_)
      refine pops.nil ?_
      repeat (first | refine zA ?_ | refine zB ?_ | refine zC ?_ | refine zD ?_ | refine zE ?_ | refine zF ?_ | refine zG rfl ?_ | refine zH ?_ | refine zI ?_ | refine zJ ?_ | refine zK ?_ | refine zL ?_ | refine zM ?_ | refine zN ?_ | refine zO ?_)
      refine zP rfl rfl rfl rfl rfl ?_
      refine zS rfl rfl rfl rfl rfl rfl rfl rfl (SlI.len (Sl.gr hxx hwf9 gB) rfl) ?_
      refine zP rfl rfl rfl rfl rfl ?_
      refine pops.nil ?_
      repeat (first | refine zA ?_ | refine zB ?_ | refine zC ?_ | refine zD ?_ | refine zE ?_ | refine zF ?_ | refine zG rfl ?_ | refine zH ?_ | refine zI ?_ | refine zJ ?_ | refine zK ?_ | refine zL ?_ | refine zM ?_ | refine zN ?_ | refine zO ?_)
      refine Loops.ind 7 (fun s : Nat × Value => [(2, vx), (3, .pointer (some ⟨b, 0, none⟩)), (7, .map (some bm)), (10, s.2), (37, vx), (38, .int .i64 (text.length : Nat)), (39, .int .i64 (s.1 : Nat))])
        (fun s h' => s.1 ≤ text.length ∧ Gr hB h' ∧ ∃ b', hB.n ≤ b' ∧ Own h' s.2 b' (((text.take s.1).map fun k => (idxD t.classes (nameD p k) : Int)).map (Value.int .i64))) (fun s => text.length - s.1) (0, .slice none 0 0) (by decide) ⟨rfl, rfl, rfl, rfl, rfl, rfl, rfl, trivial⟩ ⟨Nat.zero_le _, Gr.refl _, hB.n, Nat.le_refl _, .inl ⟨rfl, rfl⟩⟩ ?_
      rintro ⟨i, vo⟩ z2 h' hwfi ⟨hi, g, b', hb', hown⟩
      have hwf' := hwfi
      simp only at hi hown
      have hxx' := Sl.gr hxx hwf9 (gB.trans g)
      have hqn' := Sl.gr hqn hwf9 (gB.trans g)
      have hqs' := Sl.gr hqs hwf9 (gB.trans g)
      have hc' := (gB.trans g).at hwf9 hc
      repeat (first | refine zA ?_ | refine zB ?_ | refine zC ?_ | refine zD ?_ | refine zE ?_ | refine zF ?_ | refine zG rfl ?_ | refine zH ?_ | refine zI ?_ | refine zJ ?_ | refine zK ?_ | refine zL ?_ | refine zM ?_ | refine zN ?_ | refine zO ?_)
      repeat (first | refine zT rfl rfl rfl rfl rfl rfl (cbin_inc (by omega)) ?_ | refine zP rfl rfl rfl rfl rfl ?_ | refine zQ rfl rfl rfl ?_ | refine zR rfl rfl rfl rfl rfl (by first | assumption | exact cload_of (by assumption) rfl) ?_ | refine zS rfl rfl rfl rfl rfl rfl rfl rfl (by first | exact SlA.len (by assumption) rfl | exact Sl.map (by assumption) rfl | exact Sl.len (by assumption) rfl) ?_)
      refine pops.nil ?_
      repeat (first | refine zA ?_ | refine zB ?_ | refine zC ?_ | refine zD ?_ | refine zE ?_ | refine zF ?_ | refine zG rfl ?_ | refine zH ?_ | refine zI ?_ | refine zJ ?_ | refine zK ?_ | refine zL ?_ | refine zM ?_ | refine zN ?_ | refine zO ?_)
      refine pcond.d (p := (i : Int) < (text.length : Nat)) rfl (fun hlt => ?_) (fun hge => ?_)
      · have hlt : i < text.length := by omega
        obtain ⟨k, hk⟩ : ∃ x, text[i]? = some x := ⟨_, List.getElem?_eq_getElem hlt⟩
        repeat (first | refine zA ?_ | refine zB ?_ | refine zC ?_ | refine zD ?_ | refine zE ?_ | refine zF ?_ | refine zG rfl ?_ | refine zH ?_ | refine zI ?_ | refine zJ ?_ | refine zK ?_ | refine zL ?_ | refine zM ?_ | refine zN ?_ | refine zO ?_)
        refine pops.atI (f := Value.int .i64) rfl rfl rfl rfl rfl rfl rfl hxx' hk fun q hq => ?_
        refine zR rfl rfl rfl rfl rfl (by first | assumption | exact cload_of (by assumption) rfl) ?_
        repeat (first | refine zT rfl rfl rfl rfl rfl rfl (cbin_inc (by omega)) ?_ | refine zP rfl rfl rfl rfl rfl ?_ | refine zQ rfl rfl rfl ?_ | refine zR rfl rfl rfl rfl rfl (by first | assumption | exact cload_of (by assumption) rfl) ?_ | refine zS rfl rfl rfl rfl rfl rfl rfl rfl (by first | exact SlA.len (by assumption) rfl | exact Sl.map (by assumption) rfl | exact Sl.len (by assumption) rfl) ?_)
        refine pops.nil ?_
        repeat (first | refine zA ?_ | refine zB ?_ | refine zC ?_ | refine zD ?_ | refine zE ?_ | refine zF ?_ | refine zG rfl ?_ | refine zH ?_ | refine zI ?_ | refine zJ ?_ | refine zK ?_ | refine zL ?_ | refine zM ?_ | refine zN ?_ | refine zO ?_)
        refine zP rfl rfl rfl rfl rfl ?_
        refine zR rfl rfl rfl rfl rfl (cload_of hc' rfl) ?_
        refine zP rfl rfl rfl rfl rfl ?_
        refine pops.callV rfl rfl rfl rfl rfl fn_search rfl rfl ((search_calls k (sorted_of (counted_ok p)) hqs' hsl).monoW fun r h5 hwf5 hh => ?_)
        obtain ⟨⟨i5, ok, rfl, hyes, hno⟩, g5⟩ := hh
        refine ⟨_, rfl, ?_⟩
        have hqn5 := Sl.gr hqn' hwf' g5
        have hqs5 := Sl.gr hqs' hwf' g5
        have hc5 := g5.at hwf' hc'
        have hm5 := (g.trans g5).at hwfB hm
        have hvo := getV_ok (counted_ok p) k
        obtain ⟨m, hmv⟩ : ∃ m : Nat, getV (countedD p) k = m := Int.eq_ofNat_of_zero_le hvo.1
        have hget := nameD_get p k
        rw [hmv, Int.toNat_natCast] at hget
        repeat (first | refine zT rfl rfl rfl rfl rfl rfl (cbin_inc (by omega)) ?_ | refine zP rfl rfl rfl rfl rfl ?_ | refine zQ rfl rfl rfl ?_ | refine zR rfl rfl rfl rfl rfl (by first | assumption | exact cload_of (by assumption) rfl) ?_ | refine zS rfl rfl rfl rfl rfl rfl rfl rfl (by first | exact SlA.len (by assumption) rfl | exact Sl.map (by assumption) rfl | exact Sl.len (by assumption) rfl) ?_)
        refine pops.nil ?_
        repeat (first | refine zA ?_ | refine zB ?_ | refine zC ?_ | refine zD ?_ | refine zE ?_ | refine zF ?_ | refine zG rfl ?_ | refine zH ?_ | refine zI ?_ | refine zJ ?_ | refine zK ?_ | refine zL ?_ | refine zM ?_ | refine zN ?_ | refine zO ?_)
        repeat (first | refine zT rfl rfl rfl rfl rfl rfl (cbin_inc (by omega)) ?_ | refine zP rfl rfl rfl rfl rfl ?_ | refine zQ rfl rfl rfl ?_ | refine zR rfl rfl rfl rfl rfl (by first | assumption | exact cload_of (by assumption) rfl) ?_ | refine zS rfl rfl rfl rfl rfl rfl rfl rfl (by first | exact SlA.len (by assumption) rfl | exact Sl.map (by assumption) rfl | exact Sl.len (by assumption) rfl) ?_)
        refine pops.nil ?_
        repeat (first | refine zA ?_ | refine zB ?_ | refine zC ?_ | refine zD ?_ | refine zE ?_ | refine zF ?_ | refine zG rfl ?_ | refine zH ?_ | refine zI ?_ | refine zJ ?_ | refine zK ?_ | refine zL ?_ | refine zM ?_ | refine zN ?_ | refine zO ?_)
        repeat (first | refine zT rfl rfl rfl rfl rfl rfl (cbin_inc (by omega)) ?_ | refine zP rfl rfl rfl rfl rfl ?_ | refine zQ rfl rfl rfl ?_ | refine zR rfl rfl rfl rfl rfl (by first | assumption | exact cload_of (by assumption) rfl) ?_ | refine zS rfl rfl rfl rfl rfl rfl rfl rfl (by first | exact SlA.len (by assumption) rfl | exact Sl.map (by assumption) rfl | exact Sl.len (by assumption) rfl) ?_)
        refine pops.nil ?_
        repeat (first | refine zA ?_ | refine zB ?_ | refine zC ?_ | refine zD ?_ | refine zE ?_ | refine zF ?_ | refine zG rfl ?_ | refine zH ?_ | refine zI ?_ | refine zJ ?_ | refine zK ?_ | refine zL ?_ | refine zM ?_ | refine zN ?_ | refine zO ?_)
        cases ok with
        | true =>
          obtain ⟨x, hx', hin⟩ := hyes rfl
          obtain ⟨bx, ox, hxp, hxl⟩ := SlSp.read (int := 3) (ts := 23) hwf5 hsu rfl rfl rfl hqs5 hx' .i64
          obtain ⟨hx0, hx1, hx2⟩ := hxl h5 (Gr.refl _)
          have hxv : x.value = (m : Int) := by
            rw [← hmv]
            unfold getV
            rw [find_at (counted_ok p) hx' hin]
            rfl
          rw [hxv] at hx2
          refine pcond.t rfl ?_
          repeat (first | refine zA ?_ | refine zB ?_ | refine zC ?_ | refine zD ?_ | refine zE ?_ | refine zF ?_ | refine zG rfl ?_ | refine zH ?_ | refine zI ?_ | refine zJ ?_ | refine zK ?_ | refine zL ?_ | refine zM ?_ | refine zN ?_ | refine zO ?_)
          refine zP rfl rfl rfl rfl rfl ?_
          refine zR rfl rfl rfl rfl rfl (cload_of hc5 rfl) ?_
          refine zP rfl rfl rfl rfl rfl ?_
          refine pops.indexAddr rfl rfl rfl rfl rfl rfl hxp ?_
          refine zP rfl rfl rfl rfl rfl ?_
          refine zR rfl rfl rfl rfl rfl hx2 ?_
          repeat (first | refine zT rfl rfl rfl rfl rfl rfl (cbin_inc (by omega)) ?_ | refine zP rfl rfl rfl rfl rfl ?_ | refine zQ rfl rfl rfl ?_ | refine zR rfl rfl rfl rfl rfl (by first | assumption | exact cload_of (by assumption) rfl) ?_ | refine zS rfl rfl rfl rfl rfl rfl rfl rfl (by first | exact SlA.len (by assumption) rfl | exact Sl.map (by assumption) rfl | exact Sl.len (by assumption) rfl) ?_)
          refine pops.nil ?_
          repeat (first | refine zA ?_ | refine zB ?_ | refine zC ?_ | refine zD ?_ | refine zE ?_ | refine zF ?_ | refine zG rfl ?_ | refine zH ?_ | refine zI ?_ | refine zJ ?_ | refine zK ?_ | refine zL ?_ | refine zM ?_ | refine zN ?_ | refine zO ?_)
          refine zP rfl rfl rfl rfl rfl ?_
          refine zP rfl rfl rfl rfl rfl ?_
          refine zP rfl rfl rfl rfl rfl ?_
          refine zR rfl rfl rfl rfl rfl (cload_of hc5 rfl) ?_
          refine zP rfl rfl rfl rfl rfl ?_
          refine pops.atI (i := m) (f := Value.string) rfl rfl rfl rfl rfl rfl rfl hqn5 hget fun qn hqn' => ?_
          refine zR rfl rfl rfl rfl rfl (by first | assumption | exact cload_of (by assumption) rfl) ?_
          refine pops.lookup rfl rfl rfl rfl rfl rfl (clookup_idx rfl rfl rfl hm5) ?_
          refine pops.buildSlice (cs := [.int .i64 (idxD t.classes (nameD p k) : Int)]) rfl rfl rfl rfl rfl hwf5 fun b1 h6 hb1 hwf6 g6 hc6 => ?_
          refine pops.append1 rfl rfl rfl rfl rfl rfl rfl rfl rfl rfl rfl rfl rfl rfl rfl rfl rfl hwf6 (hown.gr hwf' (g5.trans g6)) rfl hc6 (by rw [List.length_map, List.length_map]; simp; omega) fun v' b2 h7 hwf7 ch hb2 hown7 => ?_
          have g7 : Gr hB h7 := ((g.trans g5).trans g6).chg hb' ch
          repeat (first | refine zT rfl rfl rfl rfl rfl rfl (cbin_inc (by omega)) ?_ | refine zP rfl rfl rfl rfl rfl ?_ | refine zQ rfl rfl rfl ?_ | refine zR rfl rfl rfl rfl rfl (by first | assumption | exact cload_of (by assumption) rfl) ?_ | refine zS rfl rfl rfl rfl rfl rfl rfl rfl (by first | exact SlA.len (by assumption) rfl | exact Sl.map (by assumption) rfl | exact Sl.len (by assumption) rfl) ?_)
          refine pops.nil ?_
          repeat (first | refine zA ?_ | refine zB ?_ | refine zC ?_ | refine zD ?_ | refine zE ?_ | refine zF ?_ | refine zG rfl ?_ | refine zH ?_ | refine zI ?_ | refine zJ ?_ | refine zK ?_ | refine zL ?_ | refine zM ?_ | refine zN ?_ | refine zO ?_)
          repeat (first | refine zT rfl rfl rfl rfl rfl rfl (cbin_inc (by omega)) ?_ | refine zP rfl rfl rfl rfl rfl ?_ | refine zQ rfl rfl rfl ?_ | refine zR rfl rfl rfl rfl rfl (by first | assumption | exact cload_of (by assumption) rfl) ?_ | refine zS rfl rfl rfl rfl rfl rfl rfl rfl (by first | exact SlA.len (by assumption) rfl | exact Sl.map (by assumption) rfl | exact Sl.len (by assumption) rfl) ?_)
          refine pops.nil ?_
          refine .n ⟨_, (i + 1, v'), rfl, ⟨rfl, rfl, rfl, rfl, rfl, rfl, rfl, trivial⟩, (by show text.length - (i + 1) < text.length - i; omega), (by show i + 1 ≤ text.length; omega), g7, b2, Nat.le_trans ((g.trans g5).trans g6).n hb2, ?_⟩
          show Own h7 v' b2 (((text.take (i + 1)).map _).map _)
          rw [List.take_add_one, hk, Option.toList_some, List.map_append, List.map_append]
          exact hown7
        | false =>
          have hm0 : m = 0 := by
            have : getV (countedD p) k = 0 := by
              unfold getV
              rw [find_no (hno rfl)]
              rfl
            omega
          subst hm0
          refine pcond.f rfl ?_
          repeat (first | refine zA ?_ | refine zB ?_ | refine zC ?_ | refine zD ?_ | refine zE ?_ | refine zF ?_ | refine zG rfl ?_ | refine zH ?_ | refine zI ?_ | refine zJ ?_ | refine zK ?_ | refine zL ?_ | refine zM ?_ | refine zN ?_ | refine zO ?_)
          refine zP rfl rfl rfl rfl rfl ?_
          refine zP rfl rfl rfl rfl rfl ?_
          refine zP rfl rfl rfl rfl rfl ?_
          refine zR rfl rfl rfl rfl rfl (cload_of hc5 rfl) ?_
          refine zP rfl rfl rfl rfl rfl ?_
          refine pops.atI (i := 0) (f := Value.string) rfl rfl rfl rfl rfl rfl rfl hqn5 hget fun qn hqn' => ?_
          refine zR rfl rfl rfl rfl rfl (by first | assumption | exact cload_of (by assumption) rfl) ?_
          refine pops.lookup rfl rfl rfl rfl rfl rfl (clookup_idx rfl rfl rfl hm5) ?_
          refine pops.buildSlice (cs := [.int .i64 (idxD t.classes (nameD p k) : Int)]) rfl rfl rfl rfl rfl hwf5 fun b1 h6 hb1 hwf6 g6 hc6 => ?_
          refine pops.append1 rfl rfl rfl rfl rfl rfl rfl rfl rfl rfl rfl rfl rfl rfl rfl rfl rfl hwf6 (hown.gr hwf' (g5.trans g6)) rfl hc6 (by rw [List.length_map, List.length_map]; simp; omega) fun v' b2 h7 hwf7 ch hb2 hown7 => ?_
          have g7 : Gr hB h7 := ((g.trans g5).trans g6).chg hb' ch
          repeat (first | refine zT rfl rfl rfl rfl rfl rfl (cbin_inc (by omega)) ?_ | refine zP rfl rfl rfl rfl rfl ?_ | refine zQ rfl rfl rfl ?_ | refine zR rfl rfl rfl rfl rfl (by first | assumption | exact cload_of (by assumption) rfl) ?_ | refine zS rfl rfl rfl rfl rfl rfl rfl rfl (by first | exact SlA.len (by assumption) rfl | exact Sl.map (by assumption) rfl | exact Sl.len (by assumption) rfl) ?_)
          refine pops.nil ?_
          repeat (first | refine zA ?_ | refine zB ?_ | refine zC ?_ | refine zD ?_ | refine zE ?_ | refine zF ?_ | refine zG rfl ?_ | refine zH ?_ | refine zI ?_ | refine zJ ?_ | refine zK ?_ | refine zL ?_ | refine zM ?_ | refine zN ?_ | refine zO ?_)
          repeat (first | refine zT rfl rfl rfl rfl rfl rfl (cbin_inc (by omega)) ?_ | refine zP rfl rfl rfl rfl rfl ?_ | refine zQ rfl rfl rfl ?_ | refine zR rfl rfl rfl rfl rfl (by first | assumption | exact cload_of (by assumption) rfl) ?_ | refine zS rfl rfl rfl rfl rfl rfl rfl rfl (by first | exact SlA.len (by assumption) rfl | exact Sl.map (by assumption) rfl | exact Sl.len (by assumption) rfl) ?_)
          refine pops.nil ?_
          refine .n ⟨_, (i + 1, v'), rfl, ⟨rfl, rfl, rfl, rfl, rfl, rfl, rfl, trivial⟩, (by show text.length - (i + 1) < text.length - i; omega), (by show i + 1 ≤ text.length; omega), g7, b2, Nat.le_trans ((g.trans g5).trans g6).n hb2, ?_⟩
          show Own h7 v' b2 (((text.take (i + 1)).map _).map _)
          rw [List.take_add_one, hk, Option.toList_some, List.map_append, List.map_append]
          exact hown7
      · repeat (first | refine zA ?_ | refine zB ?_ | refine zC ?_ | refine zD ?_ | refine zE ?_ | refine zF ?_ | refine zG rfl ?_ | refine zH ?_ | refine zI ?_ | refine zJ ?_ | refine zK ?_ | refine zL ?_ | refine zM ?_ | refine zN ?_ | refine zO ?_)
        have hi' : i = text.length := by omega
        subst hi'
        repeat (first | refine zT rfl rfl rfl rfl rfl rfl (cbin_inc (by omega)) ?_ | refine zP rfl rfl rfl rfl rfl ?_ | refine zQ rfl rfl rfl ?_ | refine zR rfl rfl rfl rfl rfl (by first | assumption | exact cload_of (by assumption) rfl) ?_ | refine zS rfl rfl rfl rfl rfl rfl rfl rfl (by first | exact SlA.len (by assumption) rfl | exact Sl.map (by assumption) rfl | exact Sl.len (by assumption) rfl) ?_)
        refine pops.nil ?_
        repeat (first | refine zA ?_ | refine zB ?_ | refine zC ?_ | refine zD ?_ | refine zE ?_ | refine zF ?_ | refine zG rfl ?_ | refine zH ?_ | refine zI ?_ | refine zJ ?_ | refine zK ?_ | refine zL ?_ | refine zM ?_ | refine zN ?_ | refine zO ?_)
        refine pleave.r rfl ?_
        refine ⟨⟨vo, rfl, ?_⟩, (g9.trans gB).trans g⟩
        unfold clsD
        rw [tt_t hV, cond_true]
        rw [List.take_length] at hown
        exact hown.sl rfl rfl rfl (by rw [List.length_map, List.length_map]; omega)
  | true =>
    obtain ⟨h9, hh9⟩ : ∃ h9, h9 = h4 := ⟨_, rfl⟩
    rw [← hh9] at hwf4 g04 hc hct ⊢
    have hwf9 := hwf4
    have g9 := g04
    have hqv : PropV tab ks.str 64 h9 (.agg #[c, s]) (countedD p) := by
      unfold countedD
      rw [hP]
      exact hpV.gr hwf g9
    repeat (first | refine zT rfl rfl rfl rfl rfl rfl (cbin_inc (by omega)) ?_ | refine zP rfl rfl rfl rfl rfl ?_ | refine zQ rfl rfl rfl ?_ | refine zR rfl rfl rfl rfl rfl (by first | assumption | exact cload_of (by assumption) rfl) ?_ | refine zS rfl rfl rfl rfl rfl rfl rfl rfl (by first | exact SlA.len (by assumption) rfl | exact Sl.map (by assumption) rfl | exact Sl.len (by assumption) rfl) ?_)
    refine pops.nil ?_
    repeat (first | refine zA ?_ | refine zB ?_ | refine zC ?_ | refine zD ?_ | refine zE ?_ | refine zF ?_ | refine zG rfl ?_ | refine zH ?_ | refine zI ?_ | refine zJ ?_ | refine zK ?_ | refine zL ?_ | refine zM ?_ | refine zN ?_ | refine zO ?_)
    refine pcond.f rfl ?_
    repeat (first | refine zA ?_ | refine zB ?_ | refine zC ?_ | refine zD ?_ | refine zE ?_ | refine zF ?_ | refine zG rfl ?_ | refine zH ?_ | refine zI ?_ | refine zJ ?_ | refine zK ?_ | refine zL ?_ | refine zM ?_ | refine zN ?_ | refine zO ?_)
    have hO := hqv.one
    obtain ⟨oq1, oq2, hqn, hqs⟩ := hO
    replace hcl := Sl.gr hcl hwf g9
    replace hxx := Sl.gr hxx hwf g9
    refine pops.makeMap rfl rfl rfl rfl rfl hwf9 fun bm hA hbm hwfA gA hm => ?_
    replace hcl := Sl.gr hcl hwf9 gA
    repeat (first | refine zT rfl rfl rfl rfl rfl rfl (cbin_inc (by omega)) ?_ | refine zP rfl rfl rfl rfl rfl ?_ | refine zQ rfl rfl rfl ?_ | refine zR rfl rfl rfl rfl rfl (by first | assumption | exact cload_of (by assumption) rfl) ?_ | refine zS rfl rfl rfl rfl rfl rfl rfl rfl (by first | exact SlA.len (by assumption) rfl | exact Sl.map (by assumption) rfl | exact Sl.len (by assumption) rfl) ?_)
    refine pops.nil ?_
    repeat (first | refine zA ?_ | refine zB ?_ | refine zC ?_ | refine zD ?_ | refine zE ?_ | refine zF ?_ | refine zG rfl ?_ | refine zH ?_ | refine zI ?_ | refine zJ ?_ | refine zK ?_ | refine zL ?_ | refine zM ?_ | refine zN ?_ | refine zO ?_)
    refine zP rfl rfl rfl rfl rfl ?_
    refine zR rfl rfl rfl rfl rfl (cload_of (gA.at hwf9 hct) rfl) ?_
    refine zS rfl rfl rfl rfl rfl rfl rfl rfl (SlS.len hcl rfl) ?_
    refine zP rfl rfl rfl rfl rfl ?_
    refine pops.nil ?_
    repeat (first | refine zA ?_ | refine zB ?_ | refine zC ?_ | refine zD ?_ | refine zE ?_ | refine zF ?_ | refine zG rfl ?_ | refine zH ?_ | refine zI ?_ | refine zJ ?_ | refine zK ?_ | refine zL ?_ | refine zM ?_ | refine zN ?_ | refine zO ?_)
    refine Loops.ind 7 (fun i : Nat => [(2, vx), (3, .pointer (some ⟨b, 0, none⟩)), (7, .map (some bm)), (26, c'), (27, .int .i64 (t.classes.length : Nat)), (28, .int .i64 (i : Nat))])
      (fun i h' => i ≤ t.classes.length ∧ Gr h9 h' ∧ h'.get bm = some (.map (mkE 0 (esTo t.classes i)) (esTo t.classes i).length)) (fun i => t.classes.length - i) 0 (by decide) ⟨rfl, rfl, rfl, rfl, rfl, rfl, trivial⟩ ⟨Nat.zero_le _, gA, by rw [esTo_zero]; exact hm⟩ ?_
    clear hm
    rintro i z h' hwf' ⟨hi, g, hm⟩
    have hcl' : SlS tab 9 h' c' t.classes := by
      have := hclX
      exact Sl.gr this hwf (g9.trans g)
    repeat (first | refine zA ?_ | refine zB ?_ | refine zC ?_ | refine zD ?_ | refine zE ?_ | refine zF ?_ | refine zG rfl ?_ | refine zH ?_ | refine zI ?_ | refine zJ ?_ | refine zK ?_ | refine zL ?_ | refine zM ?_ | refine zN ?_ | refine zO ?_)
    repeat (first | refine zT rfl rfl rfl rfl rfl rfl (cbin_inc (by omega)) ?_ | refine zP rfl rfl rfl rfl rfl ?_ | refine zQ rfl rfl rfl ?_ | refine zR rfl rfl rfl rfl rfl (by first | assumption | exact cload_of (by assumption) rfl) ?_ | refine zS rfl rfl rfl rfl rfl rfl rfl rfl (by first | exact SlA.len (by assumption) rfl | exact Sl.map (by assumption) rfl | exact Sl.len (by assumption) rfl) ?_)
    refine pops.nil ?_
    repeat (first | refine zA ?_ | refine zB ?_ | refine zC ?_ | refine zD ?_ | refine zE ?_ | refine zF ?_ | refine zG rfl ?_ | refine zH ?_ | refine zI ?_ | refine zJ ?_ | refine zK ?_ | refine zL ?_ | refine zM ?_ | refine zN ?_ | refine zO ?_)
    refine pcond.d (p := (i : Int) < (t.classes.length : Nat)) rfl (fun hlt => ?_) (fun hge => ?_)
    · have hlt : i < t.classes.length := by omega
      obtain ⟨s1, hs1⟩ : ∃ x, t.classes[i]? = some x := ⟨_, List.getElem?_eq_getElem hlt⟩
      repeat (first | refine zA ?_ | refine zB ?_ | refine zC ?_ | refine zD ?_ | refine zE ?_ | refine zF ?_ | refine zG rfl ?_ | refine zH ?_ | refine zI ?_ | refine zJ ?_ | refine zK ?_ | refine zL ?_ | refine zM ?_ | refine zN ?_ | refine zO ?_)
      refine zP rfl rfl rfl rfl rfl ?_
      refine pops.atI (f := Value.string) rfl rfl rfl rfl rfl rfl rfl hcl' hs1 fun q hq => ?_
      refine zR rfl rfl rfl rfl rfl (by first | assumption | exact cload_of (by assumption) rfl) ?_
      repeat (first | refine zT rfl rfl rfl rfl rfl rfl (cbin_inc (by omega)) ?_ | refine zP rfl rfl rfl rfl rfl ?_ | refine zQ rfl rfl rfl ?_ | refine zR rfl rfl rfl rfl rfl (by first | assumption | exact cload_of (by assumption) rfl) ?_ | refine zS rfl rfl rfl rfl rfl rfl rfl rfl (by first | exact SlA.len (by assumption) rfl | exact Sl.map (by assumption) rfl | exact Sl.len (by assumption) rfl) ?_)
      refine pops.nil ?_
      repeat (first | refine zA ?_ | refine zB ?_ | refine zC ?_ | refine zD ?_ | refine zE ?_ | refine zF ?_ | refine zG rfl ?_ | refine zH ?_ | refine zI ?_ | refine zJ ?_ | refine zK ?_ | refine zL ?_ | refine zM ?_ | refine zN ?_ | refine zO ?_)
      repeat (first | refine zT rfl rfl rfl rfl rfl rfl (cbin_inc (by omega)) ?_ | refine zP rfl rfl rfl rfl rfl ?_ | refine zQ rfl rfl rfl ?_ | refine zR rfl rfl rfl rfl rfl (by first | assumption | exact cload_of (by assumption) rfl) ?_ | refine zS rfl rfl rfl rfl rfl rfl rfl rfl (by first | exact SlA.len (by assumption) rfl | exact Sl.map (by assumption) rfl | exact Sl.len (by assumption) rfl) ?_)
      refine pops.putNew (kt := 9) (et := 3) rfl rfl rfl rfl rfl rfl rfl rfl hm (esTo_new hs1 hV.1.2.1) hwf' fun h4 hwf4 u4 hm4 => ?_
      refine pops.nil ?_
      repeat (first | refine zA ?_ | refine zB ?_ | refine zC ?_ | refine zD ?_ | refine zE ?_ | refine zF ?_ | refine zG rfl ?_ | refine zH ?_ | refine zI ?_ | refine zJ ?_ | refine zK ?_ | refine zL ?_ | refine zM ?_ | refine zN ?_ | refine zO ?_)
      repeat (first | refine zT rfl rfl rfl rfl rfl rfl (cbin_inc (by omega)) ?_ | refine zP rfl rfl rfl rfl rfl ?_ | refine zQ rfl rfl rfl ?_ | refine zR rfl rfl rfl rfl rfl (by first | assumption | exact cload_of (by assumption) rfl) ?_ | refine zS rfl rfl rfl rfl rfl rfl rfl rfl (by first | exact SlA.len (by assumption) rfl | exact Sl.map (by assumption) rfl | exact Sl.len (by assumption) rfl) ?_)
      refine pops.nil ?_
      refine .n ⟨_, i + 1, rfl, ⟨rfl, rfl, rfl, rfl, rfl, rfl, trivial⟩, (by show t.classes.length - (i + 1) < t.classes.length - i; omega), by omega, g.upd hbm u4, ?_⟩
      rw [esTo_succ hs1]
      exact hm4
    · have hi' : i = t.classes.length := by omega
      subst hi'
      generalize hBe : h' = hB at *
      have gB := g
      have hwfB := hwf'
      clear g
      have hbmB := CH.lt hwf' hm
      repeat (first | refine zA ?_ | refine zB ?_ | refine zC ?_ | refine zD ?_ | refine zE ?_ | refine zF ?_ | refine zG rfl ?_ | refine zH ?_ | refine zI ?_ | refine zJ ?_ | refine zK ?_ | refine zL ?_ | refine zM ?_ | refine zN ?_ | refine zO ?_)
      repeat (first | refine zT rfl rfl rfl rfl rfl rfl (cbin_inc (by omega)) ?_ | refine zP rfl rfl rfl rfl rfl ?_ | refine zQ rfl rfl rfl ?_ | refine zR rfl rfl rfl rfl rfl (by first | assumption | exact cload_of (by assumption) rfl) ?_ | refine zS rfl rfl rfl rfl rfl rfl rfl rfl (by first | exact SlA.len (by assumption) rfl | exact Sl.map (by assumption) rfl | exact Sl.len (by assumption) rfl) ?_)
      refine pops.nil ?_
      repeat (first | refine zA ?_ | refine zB ?_ | refine zC ?_ | refine zD ?_ | refine zE ?_ | refine zF ?_ | refine zG rfl ?_ | refine zH ?_ | refine zI ?_ | refine zJ ?_ | refine zK ?_ | refine zL ?_ | refine zM ?_ | refine zN ?_ | refine zO ?_)
      refine zP rfl rfl rfl rfl rfl ?_
      refine zS rfl rfl rfl rfl rfl rfl rfl rfl (SlI.len (Sl.gr hxx hwf9 gB) rfl) ?_
      refine zP rfl rfl rfl rfl rfl ?_
      refine pops.nil ?_
      repeat (first | refine zA ?_ | refine zB ?_ | refine zC ?_ | refine zD ?_ | refine zE ?_ | refine zF ?_ | refine zG rfl ?_ | refine zH ?_ | refine zI ?_ | refine zJ ?_ | refine zK ?_ | refine zL ?_ | refine zM ?_ | refine zN ?_ | refine zO ?_)
      refine Loops.ind 7 (fun s : Nat × Value => [(2, vx), (3, .pointer (some ⟨b, 0, none⟩)), (7, .map (some bm)), (10, s.2), (37, vx), (38, .int .i64 (text.length : Nat)), (39, .int .i64 (s.1 : Nat))])
        (fun s h' => s.1 ≤ text.length ∧ Gr hB h' ∧ ∃ b', hB.n ≤ b' ∧ Own h' s.2 b' (((text.take s.1).map fun k => (idxD t.classes (nameD p k) : Int)).map (Value.int .i64))) (fun s => text.length - s.1) (0, .slice none 0 0) (by decide) ⟨rfl, rfl, rfl, rfl, rfl, rfl, rfl, trivial⟩ ⟨Nat.zero_le _, Gr.refl _, hB.n, Nat.le_refl _, .inl ⟨rfl, rfl⟩⟩ ?_
      rintro ⟨i, vo⟩ z2 h' hwfi ⟨hi, g, b', hb', hown⟩
      have hwf' := hwfi
      simp only at hi hown
      have hxx' := Sl.gr hxx hwf9 (gB.trans g)
      have hqn' := Sl.gr hqn hwf9 (gB.trans g)
      have hqs' := Sl.gr hqs hwf9 (gB.trans g)
      have hc' := (gB.trans g).at hwf9 hc
      repeat (first | refine zA ?_ | refine zB ?_ | refine zC ?_ | refine zD ?_ | refine zE ?_ | refine zF ?_ | refine zG rfl ?_ | refine zH ?_ | refine zI ?_ | refine zJ ?_ | refine zK ?_ | refine zL ?_ | refine zM ?_ | refine zN ?_ | refine zO ?_)
      repeat (first | refine zT rfl rfl rfl rfl rfl rfl (cbin_inc (by omega)) ?_ | refine zP rfl rfl rfl rfl rfl ?_ | refine zQ rfl rfl rfl ?_ | refine zR rfl rfl rfl rfl rfl (by first | assumption | exact cload_of (by assumption) rfl) ?_ | refine zS rfl rfl rfl rfl rfl rfl rfl rfl (by first | exact SlA.len (by assumption) rfl | exact Sl.map (by assumption) rfl | exact Sl.len (by assumption) rfl) ?_)
      refine pops.nil ?_
      repeat (first | refine zA ?_ | refine zB ?_ | refine zC ?_ | refine zD ?_ | refine zE ?_ | refine zF ?_ | refine zG rfl ?_ | refine zH ?_ | refine zI ?_ | refine zJ ?_ | refine zK ?_ | refine zL ?_ | refine zM ?_ | refine zN ?_ | refine zO ?_)
      refine pcond.d (p := (i : Int) < (text.length : Nat)) rfl (fun hlt => ?_) (fun hge => ?_)
      · have hlt : i < text.length := by omega
        obtain ⟨k, hk⟩ : ∃ x, text[i]? = some x := ⟨_, List.getElem?_eq_getElem hlt⟩
        repeat (first | refine zA ?_ | refine zB ?_ | refine zC ?_ | refine zD ?_ | refine zE ?_ | refine zF ?_ | refine zG rfl ?_ | refine zH ?_ | refine zI ?_ | refine zJ ?_ | refine zK ?_ | refine zL ?_ | refine zM ?_ | refine zN ?_ | refine zO ?_)
        refine pops.atI (f := Value.int .i64) rfl rfl rfl rfl rfl rfl rfl hxx' hk fun q hq => ?_
        refine zR rfl rfl rfl rfl rfl (by first | assumption | exact cload_of (by assumption) rfl) ?_
        repeat (first | refine zT rfl rfl rfl rfl rfl rfl (cbin_inc (by omega)) ?_ | refine zP rfl rfl rfl rfl rfl ?_ | refine zQ rfl rfl rfl ?_ | refine zR rfl rfl rfl rfl rfl (by first | assumption | exact cload_of (by assumption) rfl) ?_ | refine zS rfl rfl rfl rfl rfl rfl rfl rfl (by first | exact SlA.len (by assumption) rfl | exact Sl.map (by assumption) rfl | exact Sl.len (by assumption) rfl) ?_)
        refine pops.nil ?_
        repeat (first | refine zA ?_ | refine zB ?_ | refine zC ?_ | refine zD ?_ | refine zE ?_ | refine zF ?_ | refine zG rfl ?_ | refine zH ?_ | refine zI ?_ | refine zJ ?_ | refine zK ?_ | refine zL ?_ | refine zM ?_ | refine zN ?_ | refine zO ?_)
        refine zP rfl rfl rfl rfl rfl ?_
        refine zR rfl rfl rfl rfl rfl (cload_of hc' rfl) ?_
        refine zP rfl rfl rfl rfl rfl ?_
        refine pops.callV rfl rfl rfl rfl rfl fn_search rfl rfl ((search_calls k (sorted_of (counted_ok p)) hqs' hsl).monoW fun r h5 hwf5 hh => ?_)
        obtain ⟨⟨i5, ok, rfl, hyes, hno⟩, g5⟩ := hh
        refine ⟨_, rfl, ?_⟩
        have hqn5 := Sl.gr hqn' hwf' g5
        have hqs5 := Sl.gr hqs' hwf' g5
        have hc5 := g5.at hwf' hc'
        have hm5 := (g.trans g5).at hwfB hm
        have hvo := getV_ok (counted_ok p) k
        obtain ⟨m, hmv⟩ : ∃ m : Nat, getV (countedD p) k = m := Int.eq_ofNat_of_zero_le hvo.1
        have hget := nameD_get p k
        rw [hmv, Int.toNat_natCast] at hget
        repeat (first | refine zT rfl rfl rfl rfl rfl rfl (cbin_inc (by omega)) ?_ | refine zP rfl rfl rfl rfl rfl ?_ | refine zQ rfl rfl rfl ?_ | refine zR rfl rfl rfl rfl rfl (by first | assumption | exact cload_of (by assumption) rfl) ?_ | refine zS rfl rfl rfl rfl rfl rfl rfl rfl (by first | exact SlA.len (by assumption) rfl | exact Sl.map (by assumption) rfl | exact Sl.len (by assumption) rfl) ?_)
        refine pops.nil ?_
        repeat (first | refine zA ?_ | refine zB ?_ | refine zC ?_ | refine zD ?_ | refine zE ?_ | refine zF ?_ | refine zG rfl ?_ | refine zH ?_ | refine zI ?_ | refine zJ ?_ | refine zK ?_ | refine zL ?_ | refine zM ?_ | refine zN ?_ | refine zO ?_)
        repeat (first | refine zT rfl rfl rfl rfl rfl rfl (cbin_inc (by omega)) ?_ | refine zP rfl rfl rfl rfl rfl ?_ | refine zQ rfl rfl rfl ?_ | refine zR rfl rfl rfl rfl rfl (by first | assumption | exact cload_of (by assumption) rfl) ?_ | refine zS rfl rfl rfl rfl rfl rfl rfl rfl (by first | exact SlA.len (by assumption) rfl | exact Sl.map (by assumption) rfl | exact Sl.len (by assumption) rfl) ?_)
        refine pops.nil ?_
        repeat (first | refine zA ?_ | refine zB ?_ | refine zC ?_ | refine zD ?_ | refine zE ?_ | refine zF ?_ | refine zG rfl ?_ | refine zH ?_ | refine zI ?_ | refine zJ ?_ | refine zK ?_ | refine zL ?_ | refine zM ?_ | refine zN ?_ | refine zO ?_)
        repeat (first | refine zT rfl rfl rfl rfl rfl rfl (cbin_inc (by omega)) ?_ | refine zP rfl rfl rfl rfl rfl ?_ | refine zQ rfl rfl rfl ?_ | refine zR rfl rfl rfl rfl rfl (by first | assumption | exact cload_of (by assumption) rfl) ?_ | refine zS rfl rfl rfl rfl rfl rfl rfl rfl (by first | exact SlA.len (by assumption) rfl | exact Sl.map (by assumption) rfl | exact Sl.len (by assumption) rfl) ?_)
        refine pops.nil ?_
        repeat (first | refine zA ?_ | refine zB ?_ | refine zC ?_ | refine zD ?_ | refine zE ?_ | refine zF ?_ | refine zG rfl ?_ | refine zH ?_ | refine zI ?_ | refine zJ ?_ | refine zK ?_ | refine zL ?_ | refine zM ?_ | refine zN ?_ | refine zO ?_)
        cases ok with
        | true =>
          obtain ⟨x, hx', hin⟩ := hyes rfl
          obtain ⟨bx, ox, hxp, hxl⟩ := SlSp.read (int := 3) (ts := 23) hwf5 hsu rfl rfl rfl hqs5 hx' .i64
          obtain ⟨hx0, hx1, hx2⟩ := hxl h5 (Gr.refl _)
          have hxv : x.value = (m : Int) := by
            rw [← hmv]
            unfold getV
            rw [find_at (counted_ok p) hx' hin]
            rfl
          rw [hxv] at hx2
          refine pcond.t rfl ?_
          repeat (first | refine zA ?_ | refine zB ?_ | refine zC ?_ | refine zD ?_ | refine zE ?_ | refine zF ?_ | refine zG rfl ?_ | refine zH ?_ | refine zI ?_ | refine zJ ?_ | refine zK ?_ | refine zL ?_ | refine zM ?_ | refine zN ?_ | refine zO ?_)
          refine zP rfl rfl rfl rfl rfl ?_
          refine zR rfl rfl rfl rfl rfl (cload_of hc5 rfl) ?_
          refine zP rfl rfl rfl rfl rfl ?_
          refine pops.indexAddr rfl rfl rfl rfl rfl rfl hxp ?_
          refine zP rfl rfl rfl rfl rfl ?_
          refine zR rfl rfl rfl rfl rfl hx2 ?_
          repeat (first | refine zT rfl rfl rfl rfl rfl rfl (cbin_inc (by omega)) ?_ | refine zP rfl rfl rfl rfl rfl ?_ | refine zQ rfl rfl rfl ?_ | refine zR rfl rfl rfl rfl rfl (by first | assumption | exact cload_of (by assumption) rfl) ?_ | refine zS rfl rfl rfl rfl rfl rfl rfl rfl (by first | exact SlA.len (by assumption) rfl | exact Sl.map (by assumption) rfl | exact Sl.len (by assumption) rfl) ?_)
          refine pops.nil ?_
          repeat (first | refine zA ?_ | refine zB ?_ | refine zC ?_ | refine zD ?_ | refine zE ?_ | refine zF ?_ | refine zG rfl ?_ | refine zH ?_ | refine zI ?_ | refine zJ ?_ | refine zK ?_ | refine zL ?_ | refine zM ?_ | refine zN ?_ | refine zO ?_)
          refine zP rfl rfl rfl rfl rfl ?_
          refine zP rfl rfl rfl rfl rfl ?_
          refine zP rfl rfl rfl rfl rfl ?_
          refine zR rfl rfl rfl rfl rfl (cload_of hc5 rfl) ?_
          refine zP rfl rfl rfl rfl rfl ?_
          refine pops.atI (i := m) (f := Value.string) rfl rfl rfl rfl rfl rfl rfl hqn5 hget fun qn hqn' => ?_
          refine zR rfl rfl rfl rfl rfl (by first | assumption | exact cload_of (by assumption) rfl) ?_
          refine pops.lookup rfl rfl rfl rfl rfl rfl (clookup_idx rfl rfl rfl hm5) ?_
          refine pops.buildSlice (cs := [.int .i64 (idxD t.classes (nameD p k) : Int)]) rfl rfl rfl rfl rfl hwf5 fun b1 h6 hb1 hwf6 g6 hc6 => ?_
          refine pops.append1 rfl rfl rfl rfl rfl rfl rfl rfl rfl rfl rfl rfl rfl rfl rfl rfl rfl hwf6 (hown.gr hwf' (g5.trans g6)) rfl hc6 (by rw [List.length_map, List.length_map]; simp; omega) fun v' b2 h7 hwf7 ch hb2 hown7 => ?_
          have g7 : Gr hB h7 := ((g.trans g5).trans g6).chg hb' ch
          repeat (first | refine zT rfl rfl rfl rfl rfl rfl (cbin_inc (by omega)) ?_ | refine zP rfl rfl rfl rfl rfl ?_ | refine zQ rfl rfl rfl ?_ | refine zR rfl rfl rfl rfl rfl (by first | assumption | exact cload_of (by assumption) rfl) ?_ | refine zS rfl rfl rfl rfl rfl rfl rfl rfl (by first | exact SlA.len (by assumption) rfl | exact Sl.map (by assumption) rfl | exact Sl.len (by assumption) rfl) ?_)
          refine pops.nil ?_
          repeat (first | refine zA ?_ | refine zB ?_ | refine zC ?_ | refine zD ?_ | refine zE ?_ | refine zF ?_ | refine zG rfl ?_ | refine zH ?_ | refine zI ?_ | refine zJ ?_ | refine zK ?_ | refine zL ?_ | refine zM ?_ | refine zN ?_ | refine zO ?_)
          repeat (first | refine zT rfl rfl rfl rfl rfl rfl (cbin_inc (by omega)) ?_ | refine zP rfl rfl rfl rfl rfl ?_ | refine zQ rfl rfl rfl ?_ | refine zR rfl rfl rfl rfl rfl (by first | assumption | exact cload_of (by assumption) rfl) ?_ | refine zS rfl rfl rfl rfl rfl rfl rfl rfl (by first | exact SlA.len (by assumption) rfl | exact Sl.map (by assumption) rfl | exact Sl.len (by assumption) rfl) ?_)
          refine pops.nil ?_
          refine .n ⟨_, (i + 1, v'), rfl, ⟨rfl, rfl, rfl, rfl, rfl, rfl, rfl, trivial⟩, (by show text.length - (i + 1) < text.length - i; omega), (by show i + 1 ≤ text.length; omega), g7, b2, Nat.le_trans ((g.trans g5).trans g6).n hb2, ?_⟩
          show Own h7 v' b2 (((text.take (i + 1)).map _).map _)
          rw [List.take_add_one, hk, Option.toList_some, List.map_append, List.map_append]
          exact hown7
        | false =>
          have hm0 : m = 0 := by
            have : getV (countedD p) k = 0 := by
              unfold getV
              rw [find_no (hno rfl)]
              rfl
            omega
          subst hm0
          refine pcond.f rfl ?_
          repeat (first | refine zA ?_ | refine zB ?_ | refine zC ?_ | refine zD ?_ | refine zE ?_ | refine zF ?_ | refine zG rfl ?_ | refine zH ?_ | refine zI ?_ | refine zJ ?_ | refine zK ?_ | refine zL ?_ | refine zM ?_ | refine zN ?_ | refine zO ?_)
          refine zP rfl rfl rfl rfl rfl ?_
          refine zP rfl rfl rfl rfl rfl ?_
          refine zP rfl rfl rfl rfl rfl ?_
          refine zR rfl rfl rfl rfl rfl (cload_of hc5 rfl) ?_
          refine zP rfl rfl rfl rfl rfl ?_
          refine pops.atI (i := 0) (f := Value.string) rfl rfl rfl rfl rfl rfl rfl hqn5 hget fun qn hqn' => ?_
          refine zR rfl rfl rfl rfl rfl (by first | assumption | exact cload_of (by assumption) rfl) ?_
          refine pops.lookup rfl rfl rfl rfl rfl rfl (clookup_idx rfl rfl rfl hm5) ?_
          refine pops.buildSlice (cs := [.int .i64 (idxD t.classes (nameD p k) : Int)]) rfl rfl rfl rfl rfl hwf5 fun b1 h6 hb1 hwf6 g6 hc6 => ?_
          refine pops.append1 rfl rfl rfl rfl rfl rfl rfl rfl rfl rfl rfl rfl rfl rfl rfl rfl rfl hwf6 (hown.gr hwf' (g5.trans g6)) rfl hc6 (by rw [List.length_map, List.length_map]; simp; omega) fun v' b2 h7 hwf7 ch hb2 hown7 => ?_
          have g7 : Gr hB h7 := ((g.trans g5).trans g6).chg hb' ch
          repeat (first | refine zT rfl rfl rfl rfl rfl rfl (cbin_inc (by omega)) ?_ | refine zP rfl rfl rfl rfl rfl ?_ | refine zQ rfl rfl rfl ?_ | refine zR rfl rfl rfl rfl rfl (by first | assumption | exact cload_of (by assumption) rfl) ?_ | refine zS rfl rfl rfl rfl rfl rfl rfl rfl (by first | exact SlA.len (by assumption) rfl | exact Sl.map (by assumption) rfl | exact Sl.len (by assumption) rfl) ?_)
          refine pops.nil ?_
          repeat (first | refine zA ?_ | refine zB ?_ | refine zC ?_ | refine zD ?_ | refine zE ?_ | refine zF ?_ | refine zG rfl ?_ | refine zH ?_ | refine zI ?_ | refine zJ ?_ | refine zK ?_ | refine zL ?_ | refine zM ?_ | refine zN ?_ | refine zO ?_)
          repeat (first | refine zT rfl rfl rfl rfl rfl rfl (cbin_inc (by omega)) ?_ | refine zP rfl rfl rfl rfl rfl ?_ | refine zQ rfl rfl rfl ?_ | refine zR rfl rfl rfl rfl rfl (by first | assumption | exact cload_of (by assumption) rfl) ?_ | refine zS rfl rfl rfl rfl rfl rfl rfl rfl (by first | exact SlA.len (by assumption) rfl | exact Sl.map (by assumption) rfl | exact Sl.len (by assumption) rfl) ?_)
          refine pops.nil ?_
          refine .n ⟨_, (i + 1, v'), rfl, ⟨rfl, rfl, rfl, rfl, rfl, rfl, rfl, trivial⟩, (by show text.length - (i + 1) < text.length - i; omega), (by show i + 1 ≤ text.length; omega), g7, b2, Nat.le_trans ((g.trans g5).trans g6).n hb2, ?_⟩
          show Own h7 v' b2 (((text.take (i + 1)).map _).map _)
          rw [List.take_add_one, hk, Option.toList_some, List.map_append, List.map_append]
          exact hown7
      · repeat (first | refine zA ?_ | refine zB ?_ | refine zC ?_ | refine zD ?_ | refine zE ?_ | refine zF ?_ | refine zG rfl ?_ | refine zH ?_ | refine zI ?_ | refine zJ ?_ | refine zK ?_ | refine zL ?_ | refine zM ?_ | refine zN ?_ | refine zO ?_)
        have hi' : i = text.length := by omega
        subst hi'
        repeat (first | refine zT rfl rfl rfl rfl rfl rfl (cbin_inc (by omega)) ?_ | refine zP rfl rfl rfl rfl rfl ?_ | refine zQ rfl rfl rfl ?_ | refine zR rfl rfl rfl rfl rfl (by first | assumption | exact cload_of (by assumption) rfl) ?_ | refine zS rfl rfl rfl rfl rfl rfl rfl rfl (by first | exact SlA.len (by assumption) rfl | exact Sl.map (by assumption) rfl | exact Sl.len (by assumption) rfl) ?_)
        refine pops.nil ?_
        repeat (first | refine zA ?_ | refine zB ?_ | refine zC ?_ | refine zD ?_ | refine zE ?_ | refine zF ?_ | refine zG rfl ?_ | refine zH ?_ | refine zI ?_ | refine zJ ?_ | refine zK ?_ | refine zL ?_ | refine zM ?_ | refine zN ?_ | refine zO ?_)
        refine pleave.r rfl ?_
        refine ⟨⟨vo, rfl, ?_⟩, (g9.trans gB).trans g⟩
        unfold clsD
        rw [tt_t hV, cond_true]
        rw [List.take_length] at hown
        exact hown.sl rfl rfl rfl (by rw [List.length_map, List.length_map]; omega)
end Go.Proofs.YtpcoponpfhnhlaaGreatDoor
set_option maxRecDepth 100000
set_option linter.unusedVariables false
set_option linter.unusedSimpArgs false
namespace Go.Proofs.YtpcoponpfhnhlaaGreatDoor
open Go.Cx
variable {w : World} {h : CH}
end Go.Proofs.YtpcoponpfhnhlaaGreatDoor