/- Walks through the functions that the statement reaches, and the statement. Conditions: none. -/
import Derived.Test.YtpcoponpfhnhlaaGreatDoorWalkA
import Derived.Test.YtpcoponpfhnhlaaGreatDoorCxE
set_option maxRecDepth 100000
set_option linter.unusedVariables false
set_option linter.unusedSimpArgs false
namespace Go.Proofs.YtpcoponpfhnhlaaGreatDoor
open Go.Cx
variable {w : World} {h : CH}
theorem fn_sound : tab.fn 30 = some Tryz.f30 := by kernel_rfl
theorem sound_calls {v : Value} {a : AutD} (hv : AutV tab ks h v a) (classes rules : Nat) (hcb : classes < 9223372036854775808) : CalF (X w) 30 [v, .int .i64 (classes : Int), .int .i64 (rules : Int)] h fun r h' => r = .ret (.bool (tt (ShapeP a classes rules))) ∧ Gr h h' := by
  refine CalF.wf fun hwf => ?_
  obtain ⟨x, y, rfl, hox, hoy, hx, hy⟩ := hv
  refine CalF.intro fn_sound rfl (Nat.le_of_ble_eq_true rfl) ?_
  repeat (first | refine zA ?_ | refine zB ?_ | refine zC ?_ | refine zD ?_ | refine zE ?_ | refine zF ?_ | refine zG rfl ?_ | refine zH ?_ | refine zI ?_ | refine zJ ?_ | refine zK ?_ | refine zL ?_ | refine zM ?_ | refine zN ?_ | refine zO ?_)
  refine pops.box (cs := [x, y]) rfl rfl rfl rfl (by simp [hox, hoy]) rfl rfl hwf fun b h1 hb hwf1 g1 hc => ?_
  replace hx := hx.gr hwf g1
  replace hy := hy.gr hwf g1
  have lx := hx.lt
  have ly := hy.lt
  refine zP rfl rfl rfl rfl rfl ?_
  refine pops.nil ?_
  repeat (first | refine zA ?_ | refine zB ?_ | refine zC ?_ | refine zD ?_ | refine zE ?_ | refine zF ?_ | refine zG rfl ?_ | refine zH ?_ | refine zI ?_ | refine zJ ?_ | refine zK ?_ | refine zL ?_ | refine zM ?_ | refine zN ?_ | refine zO ?_)
  repeat (first | refine zT rfl rfl rfl rfl rfl rfl (cbin_inc (by omega)) ?_ | refine zP rfl rfl rfl rfl rfl ?_ | refine zQ rfl rfl rfl ?_ | refine zR rfl rfl rfl rfl rfl (by first | assumption | exact cload_of (by assumption) rfl) ?_ | refine zS rfl rfl rfl rfl rfl rfl rfl rfl (by first | exact SlA.len (by assumption) rfl | exact Sl.map (by assumption) rfl | exact Sl.len (by assumption) rfl) ?_)
  refine pops.nil ?_
  repeat (first | refine zA ?_ | refine zB ?_ | refine zC ?_ | refine zD ?_ | refine zE ?_ | refine zF ?_ | refine zG rfl ?_ | refine zH ?_ | refine zI ?_ | refine zJ ?_ | refine zK ?_ | refine zL ?_ | refine zM ?_ | refine zN ?_ | refine zO ?_)
  repeat (first | refine zT rfl rfl rfl rfl rfl rfl (cbin_inc (by omega)) ?_ | refine zY rfl rfl rfl rfl rfl rfl ?_ | refine zQ rfl rfl rfl ?_ | refine zR rfl rfl rfl rfl rfl (by first | assumption | exact cload_of (by assumption) rfl) ?_ | refine zS rfl rfl rfl rfl rfl rfl rfl rfl (by first | exact SlA.len (by assumption) rfl | exact Sl.map (by assumption) rfl | exact Sl.len (by assumption) rfl) ?_)
  refine zZ rfl rfl rfl rfl rfl (fun q => ?_) (fun q => ?_)
  · repeat (first | refine zT rfl rfl rfl rfl rfl rfl (cbin_inc (by omega)) ?_ | refine zP rfl rfl rfl rfl rfl ?_ | refine zQ rfl rfl rfl ?_ | refine zR rfl rfl rfl rfl rfl (by first | assumption | exact cload_of (by assumption) rfl) ?_ | refine zS rfl rfl rfl rfl rfl rfl rfl rfl (by first | exact SlA.len (by assumption) rfl | exact Sl.map (by assumption) rfl | exact Sl.len (by assumption) rfl) ?_)
    refine pops.nil ?_
    repeat (first | refine zA ?_ | refine zB ?_ | refine zC ?_ | refine zD ?_ | refine zE ?_ | refine zF ?_ | refine zG rfl ?_ | refine zH ?_ | refine zI ?_ | refine zJ ?_ | refine zK ?_ | refine zL ?_ | refine zM ?_ | refine zN ?_ | refine zO ?_)
    refine pcond.t rfl ?_
    repeat (first | refine zA ?_ | refine zB ?_ | refine zC ?_ | refine zD ?_ | refine zE ?_ | refine zF ?_ | refine zG rfl ?_ | refine zH ?_ | refine zI ?_ | refine zJ ?_ | refine zK ?_ | refine zL ?_ | refine zM ?_ | refine zN ?_ | refine zO ?_)
    repeat (first | refine zT rfl rfl rfl rfl rfl rfl (cbin_inc (by omega)) ?_ | refine zP rfl rfl rfl rfl rfl ?_ | refine zQ rfl rfl rfl ?_ | refine zR rfl rfl rfl rfl rfl (by first | assumption | exact cload_of (by assumption) rfl) ?_ | refine zS rfl rfl rfl rfl rfl rfl rfl rfl (by first | exact SlA.len (by assumption) rfl | exact Sl.map (by assumption) rfl | exact Sl.len (by assumption) rfl) ?_)
    refine pops.nil ?_
    repeat (first | refine zA ?_ | refine zB ?_ | refine zC ?_ | refine zD ?_ | refine zE ?_ | refine zF ?_ | refine zG rfl ?_ | refine zH ?_ | refine zI ?_ | refine zJ ?_ | refine zK ?_ | refine zL ?_ | refine zM ?_ | refine zN ?_ | refine zO ?_)
    refine pleave.r rfl ?_
    refine ⟨?_, g1⟩
    rw [tt_f]
    intro hP
    have := hP.1
    simp at q
    omega
  repeat (first | refine zT rfl rfl rfl rfl rfl rfl (cbin_inc (by omega)) ?_ | refine zY rfl rfl rfl rfl rfl rfl ?_ | refine zQ rfl rfl rfl ?_ | refine zR rfl rfl rfl rfl rfl (by first | assumption | exact cload_of (by assumption) rfl) ?_ | refine zS rfl rfl rfl rfl rfl rfl rfl rfl (by first | exact SlA.len (by assumption) rfl | exact Sl.map (by assumption) rfl | exact Sl.len (by assumption) rfl) ?_)
  refine zZ rfl rfl rfl rfl rfl (fun q2 => ?_) (fun q2 => ?_)
  · repeat (first | refine zT rfl rfl rfl rfl rfl rfl (cbin_inc (by omega)) ?_ | refine zP rfl rfl rfl rfl rfl ?_ | refine zQ rfl rfl rfl ?_ | refine zR rfl rfl rfl rfl rfl (by first | assumption | exact cload_of (by assumption) rfl) ?_ | refine zS rfl rfl rfl rfl rfl rfl rfl rfl (by first | exact SlA.len (by assumption) rfl | exact Sl.map (by assumption) rfl | exact Sl.len (by assumption) rfl) ?_)
    refine pops.nil ?_
    repeat (first | refine zA ?_ | refine zB ?_ | refine zC ?_ | refine zD ?_ | refine zE ?_ | refine zF ?_ | refine zG rfl ?_ | refine zH ?_ | refine zI ?_ | refine zJ ?_ | refine zK ?_ | refine zL ?_ | refine zM ?_ | refine zN ?_ | refine zO ?_)
    refine pcond.t rfl ?_
    repeat (first | refine zA ?_ | refine zB ?_ | refine zC ?_ | refine zD ?_ | refine zE ?_ | refine zF ?_ | refine zG rfl ?_ | refine zH ?_ | refine zI ?_ | refine zJ ?_ | refine zK ?_ | refine zL ?_ | refine zM ?_ | refine zN ?_ | refine zO ?_)
    repeat (first | refine zT rfl rfl rfl rfl rfl rfl (cbin_inc (by omega)) ?_ | refine zP rfl rfl rfl rfl rfl ?_ | refine zQ rfl rfl rfl ?_ | refine zR rfl rfl rfl rfl rfl (by first | assumption | exact cload_of (by assumption) rfl) ?_ | refine zS rfl rfl rfl rfl rfl rfl rfl rfl (by first | exact SlA.len (by assumption) rfl | exact Sl.map (by assumption) rfl | exact Sl.len (by assumption) rfl) ?_)
    refine pops.nil ?_
    repeat (first | refine zA ?_ | refine zB ?_ | refine zC ?_ | refine zD ?_ | refine zE ?_ | refine zF ?_ | refine zG rfl ?_ | refine zH ?_ | refine zI ?_ | refine zJ ?_ | refine zK ?_ | refine zL ?_ | refine zM ?_ | refine zN ?_ | refine zO ?_)
    refine pleave.r rfl ?_
    refine ⟨?_, g1⟩
    rw [tt_f]
    intro hP
    have := hP.2.1
    simp at q2
    omega
  repeat (first | refine zT rfl rfl rfl rfl rfl rfl (cbin_inc (by omega)) ?_ | refine zY rfl rfl rfl rfl rfl rfl ?_ | refine zQ rfl rfl rfl ?_ | refine zR rfl rfl rfl rfl rfl (by first | assumption | exact cload_of (by assumption) rfl) ?_ | refine zS rfl rfl rfl rfl rfl rfl rfl rfl (by first | exact SlA.len (by assumption) rfl | exact Sl.map (by assumption) rfl | exact Sl.len (by assumption) rfl) ?_)
  refine zZ rfl rfl rfl rfl rfl (fun q3 => ?_) (fun q3 => ?_)
  · repeat (first | refine zT rfl rfl rfl rfl rfl rfl (cbin_inc (by omega)) ?_ | refine zP rfl rfl rfl rfl rfl ?_ | refine zQ rfl rfl rfl ?_ | refine zR rfl rfl rfl rfl rfl (by first | assumption | exact cload_of (by assumption) rfl) ?_ | refine zS rfl rfl rfl rfl rfl rfl rfl rfl (by first | exact SlA.len (by assumption) rfl | exact Sl.map (by assumption) rfl | exact Sl.len (by assumption) rfl) ?_)
    refine pops.nil ?_
    repeat (first | refine zA ?_ | refine zB ?_ | refine zC ?_ | refine zD ?_ | refine zE ?_ | refine zF ?_ | refine zG rfl ?_ | refine zH ?_ | refine zI ?_ | refine zJ ?_ | refine zK ?_ | refine zL ?_ | refine zM ?_ | refine zN ?_ | refine zO ?_)
    refine pcond.t rfl ?_
    repeat (first | refine zA ?_ | refine zB ?_ | refine zC ?_ | refine zD ?_ | refine zE ?_ | refine zF ?_ | refine zG rfl ?_ | refine zH ?_ | refine zI ?_ | refine zJ ?_ | refine zK ?_ | refine zL ?_ | refine zM ?_ | refine zN ?_ | refine zO ?_)
    repeat (first | refine zT rfl rfl rfl rfl rfl rfl (cbin_inc (by omega)) ?_ | refine zP rfl rfl rfl rfl rfl ?_ | refine zQ rfl rfl rfl ?_ | refine zR rfl rfl rfl rfl rfl (by first | assumption | exact cload_of (by assumption) rfl) ?_ | refine zS rfl rfl rfl rfl rfl rfl rfl rfl (by first | exact SlA.len (by assumption) rfl | exact Sl.map (by assumption) rfl | exact Sl.len (by assumption) rfl) ?_)
    refine pops.nil ?_
    repeat (first | refine zA ?_ | refine zB ?_ | refine zC ?_ | refine zD ?_ | refine zE ?_ | refine zF ?_ | refine zG rfl ?_ | refine zH ?_ | refine zI ?_ | refine zJ ?_ | refine zK ?_ | refine zL ?_ | refine zM ?_ | refine zN ?_ | refine zO ?_)
    refine pleave.r rfl ?_
    refine ⟨?_, g1⟩
    rw [tt_f]
    intro hP
    have := hP.2.2.1
    simp at q3
    omega
  repeat (first | refine zT rfl rfl rfl rfl rfl rfl (cbin_inc (by omega)) ?_ | refine zP rfl rfl rfl rfl rfl ?_ | refine zQ rfl rfl rfl ?_ | refine zR rfl rfl rfl rfl rfl (by first | assumption | exact cload_of (by assumption) rfl) ?_ | refine zS rfl rfl rfl rfl rfl rfl rfl rfl (by first | exact SlA.len (by assumption) rfl | exact Sl.map (by assumption) rfl | exact Sl.len (by assumption) rfl) ?_)
  refine pops.nil ?_
  repeat (first | refine zA ?_ | refine zB ?_ | refine zC ?_ | refine zD ?_ | refine zE ?_ | refine zF ?_ | refine zG rfl ?_ | refine zH ?_ | refine zI ?_ | refine zJ ?_ | refine zK ?_ | refine zL ?_ | refine zM ?_ | refine zN ?_ | refine zO ?_)
  refine pcond.f rfl ?_
  repeat (first | refine zA ?_ | refine zB ?_ | refine zC ?_ | refine zD ?_ | refine zE ?_ | refine zF ?_ | refine zG rfl ?_ | refine zH ?_ | refine zI ?_ | refine zJ ?_ | refine zK ?_ | refine zL ?_ | refine zM ?_ | refine zN ?_ | refine zO ?_)
  repeat (first | refine zT rfl rfl rfl rfl rfl rfl (cbin_inc (by omega)) ?_ | refine zP rfl rfl rfl rfl rfl ?_ | refine zQ rfl rfl rfl ?_ | refine zR rfl rfl rfl rfl rfl (by first | assumption | exact cload_of (by assumption) rfl) ?_ | refine zS rfl rfl rfl rfl rfl rfl rfl rfl (by first | exact SlA.len (by assumption) rfl | exact Sl.map (by assumption) rfl | exact Sl.len (by assumption) rfl) ?_)
  refine pops.nil ?_
  repeat (first | refine zA ?_ | refine zB ?_ | refine zC ?_ | refine zD ?_ | refine zE ?_ | refine zF ?_ | refine zG rfl ?_ | refine zH ?_ | refine zI ?_ | refine zJ ?_ | refine zK ?_ | refine zL ?_ | refine zM ?_ | refine zN ?_ | refine zO ?_)
  simp at q q2 q3
  have n1 : 1 ≤ a.next.length := by omega
  have n2 : a.next.length ≤ 400 := by omega
  have n3 : a.marks.length = a.next.length := by omega
  refine Loops.ind 7 (fun i : Nat => [(1, .int .i64 (classes : Int)), (2, .int .i64 (rules : Int)), (3, .pointer (some ⟨b, 0, none⟩)), (6, .bool false), (7, .int .i64 (a.next.length : Nat)), (8, .int .i64 (i : Nat))])
    (fun i h' => i ≤ a.next.length ∧ h' = h1 ∧ ∀ j, j < i → ShapeAt a classes rules j)
    (fun i => a.next.length - i) 0 (by decide) ⟨rfl, rfl, rfl, rfl, rfl, rfl, trivial⟩ ⟨Nat.zero_le _, rfl, fun j hj => absurd hj (Nat.not_lt_zero j)⟩ ?_
  rintro i z h' hwf' ⟨hi, rfl, hall⟩
  repeat (first | refine zA ?_ | refine zB ?_ | refine zC ?_ | refine zD ?_ | refine zE ?_ | refine zF ?_ | refine zG rfl ?_ | refine zH ?_ | refine zI ?_ | refine zJ ?_ | refine zK ?_ | refine zL ?_ | refine zM ?_ | refine zN ?_ | refine zO ?_)
  repeat (first | refine zT rfl rfl rfl rfl rfl rfl (cbin_inc (by omega)) ?_ | refine zP rfl rfl rfl rfl rfl ?_ | refine zQ rfl rfl rfl ?_ | refine zR rfl rfl rfl rfl rfl (by first | assumption | exact cload_of (by assumption) rfl) ?_ | refine zS rfl rfl rfl rfl rfl rfl rfl rfl (by first | exact SlA.len (by assumption) rfl | exact Sl.map (by assumption) rfl | exact Sl.len (by assumption) rfl) ?_)
  refine pops.nil ?_
  repeat (first | refine zA ?_ | refine zB ?_ | refine zC ?_ | refine zD ?_ | refine zE ?_ | refine zF ?_ | refine zG rfl ?_ | refine zH ?_ | refine zI ?_ | refine zJ ?_ | refine zK ?_ | refine zL ?_ | refine zM ?_ | refine zN ?_ | refine zO ?_)
  refine pcond.d (p := (i : Int) < (a.next.length : Nat)) rfl (fun hlt => ?_) (fun hge => ?_)
  · have hlt : i < a.next.length := by omega
    have bad : ¬ ShapeAt a classes rules i → tt (ShapeP a classes rules) = false := fun hn => tt_f fun hP => hn (hP.2.2.2 i hlt)
    obtain ⟨l, hl⟩ : ∃ l, a.next[i]? = some l := ⟨_, List.getElem?_eq_getElem hlt⟩
    obtain ⟨m, hm⟩ : ∃ m, a.marks[i]? = some m := ⟨_, List.getElem?_eq_getElem (by omega)⟩
    repeat (first | refine zA ?_ | refine zB ?_ | refine zC ?_ | refine zD ?_ | refine zE ?_ | refine zF ?_ | refine zG rfl ?_ | refine zH ?_ | refine zI ?_ | refine zJ ?_ | refine zK ?_ | refine zL ?_ | refine zM ?_ | refine zN ?_ | refine zO ?_)
    repeat (first | refine zT rfl rfl rfl rfl rfl rfl (cbin_inc (by omega)) ?_ | refine zY rfl rfl rfl rfl rfl rfl ?_ | refine zQ rfl rfl rfl ?_ | refine zR rfl rfl rfl rfl rfl (by first | assumption | exact cload_of (by assumption) rfl) ?_ | refine zS rfl rfl rfl rfl rfl rfl rfl rfl (by first | exact SlA.len (by assumption) rfl | exact Sl.map (by assumption) rfl | exact Sl.len (by assumption) rfl) ?_)
    refine pops.atA rfl rfl rfl rfl rfl rfl rfl hx hl fun p u hp hu => ?_
    repeat (first | refine zT rfl rfl rfl rfl rfl rfl (cbin_inc (by omega)) ?_ | refine zY rfl rfl rfl rfl rfl rfl ?_ | refine zQ rfl rfl rfl ?_ | refine zR rfl rfl rfl rfl rfl (by first | assumption | exact cload_of (by assumption) rfl) ?_ | refine zS rfl rfl rfl rfl rfl rfl rfl rfl (by first | exact SlA.len (by assumption) rfl | exact Sl.map (by assumption) rfl | exact Sl.len (by assumption) rfl) ?_)
    refine zZ rfl rfl rfl rfl rfl (fun q4 => ?_) (fun q4 => ?_)
    · repeat (first | refine zT rfl rfl rfl rfl rfl rfl (cbin_inc (by omega)) ?_ | refine zP rfl rfl rfl rfl rfl ?_ | refine zQ rfl rfl rfl ?_ | refine zR rfl rfl rfl rfl rfl (by first | assumption | exact cload_of (by assumption) rfl) ?_ | refine zS rfl rfl rfl rfl rfl rfl rfl rfl (by first | exact SlA.len (by assumption) rfl | exact Sl.map (by assumption) rfl | exact Sl.len (by assumption) rfl) ?_)
      refine pops.nil ?_
      repeat (first | refine zA ?_ | refine zB ?_ | refine zC ?_ | refine zD ?_ | refine zE ?_ | refine zF ?_ | refine zG rfl ?_ | refine zH ?_ | refine zI ?_ | refine zJ ?_ | refine zK ?_ | refine zL ?_ | refine zM ?_ | refine zN ?_ | refine zO ?_)
      refine pcond.t rfl ?_
      repeat (first | refine zA ?_ | refine zB ?_ | refine zC ?_ | refine zD ?_ | refine zE ?_ | refine zF ?_ | refine zG rfl ?_ | refine zH ?_ | refine zI ?_ | refine zJ ?_ | refine zK ?_ | refine zL ?_ | refine zM ?_ | refine zN ?_ | refine zO ?_)
      repeat (first | refine zT rfl rfl rfl rfl rfl rfl (cbin_inc (by omega)) ?_ | refine zP rfl rfl rfl rfl rfl ?_ | refine zQ rfl rfl rfl ?_ | refine zR rfl rfl rfl rfl rfl (by first | assumption | exact cload_of (by assumption) rfl) ?_ | refine zS rfl rfl rfl rfl rfl rfl rfl rfl (by first | exact SlA.len (by assumption) rfl | exact Sl.map (by assumption) rfl | exact Sl.len (by assumption) rfl) ?_)
      refine pops.nil ?_
      repeat (first | refine zA ?_ | refine zB ?_ | refine zC ?_ | refine zD ?_ | refine zE ?_ | refine zF ?_ | refine zG rfl ?_ | refine zH ?_ | refine zI ?_ | refine zJ ?_ | refine zK ?_ | refine zL ?_ | refine zM ?_ | refine zN ?_ | refine zO ?_)
      refine pleave.r rfl ?_
      refine ⟨?_, g1⟩
      rw [bad]
      intro hS
      have := (hS.1 l hl).1
      simp at q4
      omega
    simp at q4
    have hlc : l.length = classes := by omega
    repeat (first | refine zT rfl rfl rfl rfl rfl rfl (cbin_inc (by omega)) ?_ | refine zP rfl rfl rfl rfl rfl ?_ | refine zQ rfl rfl rfl ?_ | refine zR rfl rfl rfl rfl rfl (by first | assumption | exact cload_of (by assumption) rfl) ?_ | refine zS rfl rfl rfl rfl rfl rfl rfl rfl (by first | exact SlA.len (by assumption) rfl | exact Sl.map (by assumption) rfl | exact Sl.len (by assumption) rfl) ?_)
    refine pops.nil ?_
    repeat (first | refine zA ?_ | refine zB ?_ | refine zC ?_ | refine zD ?_ | refine zE ?_ | refine zF ?_ | refine zG rfl ?_ | refine zH ?_ | refine zI ?_ | refine zJ ?_ | refine zK ?_ | refine zL ?_ | refine zM ?_ | refine zN ?_ | refine zO ?_)
    refine pcond.f rfl ?_
    repeat (first | refine zA ?_ | refine zB ?_ | refine zC ?_ | refine zD ?_ | refine zE ?_ | refine zF ?_ | refine zG rfl ?_ | refine zH ?_ | refine zI ?_ | refine zJ ?_ | refine zK ?_ | refine zL ?_ | refine zM ?_ | refine zN ?_ | refine zO ?_)
    repeat (first | refine zT rfl rfl rfl rfl rfl rfl (cbin_inc (by omega)) ?_ | refine zP rfl rfl rfl rfl rfl ?_ | refine zQ rfl rfl rfl ?_ | refine zR rfl rfl rfl rfl rfl (by first | assumption | exact cload_of (by assumption) rfl) ?_ | refine zS rfl rfl rfl rfl rfl rfl rfl rfl (by first | exact SlA.len (by assumption) rfl | exact Sl.map (by assumption) rfl | exact Sl.len (by assumption) rfl) ?_)
    refine pops.nil ?_
    repeat (first | refine zA ?_ | refine zB ?_ | refine zC ?_ | refine zD ?_ | refine zE ?_ | refine zF ?_ | refine zG rfl ?_ | refine zH ?_ | refine zI ?_ | refine zJ ?_ | refine zK ?_ | refine zL ?_ | refine zM ?_ | refine zN ?_ | refine zO ?_)
    refine Loops.ind 7 (fun k : Nat => [(1, .int .i64 (classes : Int)), (2, .int .i64 (rules : Int)), (3, .pointer (some ⟨b, 0, none⟩)), (6, .bool false), (7, .int .i64 (a.next.length : Nat)), (8, .int .i64 (i : Nat)), (9, .int .i64 (k : Nat))])
      (fun k h'' => k ≤ classes ∧ h'' = h' ∧ ∀ (j : Nat) x, j < k → l[j]? = some x → 0 ≤ x ∧ x < (a.next.length : Int))
      (fun k => classes - k) 0 (by decide) ⟨rfl, rfl, rfl, rfl, rfl, rfl, rfl, trivial⟩ ⟨Nat.zero_le _, rfl, all_none⟩ ?_
    clear hwf1 hwf' hp
    rintro k z h'' hwf' ⟨hk, rfl, hkall⟩
    repeat (first | refine zA ?_ | refine zB ?_ | refine zC ?_ | refine zD ?_ | refine zE ?_ | refine zF ?_ | refine zG rfl ?_ | refine zH ?_ | refine zI ?_ | refine zJ ?_ | refine zK ?_ | refine zL ?_ | refine zM ?_ | refine zN ?_ | refine zO ?_)
    repeat (first | refine zT rfl rfl rfl rfl rfl rfl (cbin_inc (by omega)) ?_ | refine zP rfl rfl rfl rfl rfl ?_ | refine zQ rfl rfl rfl ?_ | refine zR rfl rfl rfl rfl rfl (by first | assumption | exact cload_of (by assumption) rfl) ?_ | refine zS rfl rfl rfl rfl rfl rfl rfl rfl (by first | exact SlA.len (by assumption) rfl | exact Sl.map (by assumption) rfl | exact Sl.len (by assumption) rfl) ?_)
    refine pops.nil ?_
    repeat (first | refine zA ?_ | refine zB ?_ | refine zC ?_ | refine zD ?_ | refine zE ?_ | refine zF ?_ | refine zG rfl ?_ | refine zH ?_ | refine zI ?_ | refine zJ ?_ | refine zK ?_ | refine zL ?_ | refine zM ?_ | refine zN ?_ | refine zO ?_)
    refine pcond.d (p := (k : Int) < (classes : Nat)) rfl (fun hklt => ?_) (fun hkge => ?_)
    · have hklt : k < classes := by omega
      obtain ⟨x, hxl⟩ : ∃ x, l[k]? = some x := ⟨_, List.getElem?_eq_getElem (by omega)⟩
      repeat (first | refine zA ?_ | refine zB ?_ | refine zC ?_ | refine zD ?_ | refine zE ?_ | refine zF ?_ | refine zG rfl ?_ | refine zH ?_ | refine zI ?_ | refine zJ ?_ | refine zK ?_ | refine zL ?_ | refine zM ?_ | refine zN ?_ | refine zO ?_)
      repeat (first | refine zT rfl rfl rfl rfl rfl rfl (cbin_inc (by omega)) ?_ | refine zY rfl rfl rfl rfl rfl rfl ?_ | refine zQ rfl rfl rfl ?_ | refine zR rfl rfl rfl rfl rfl (by first | assumption | exact cload_of (by assumption) rfl) ?_ | refine zS rfl rfl rfl rfl rfl rfl rfl rfl (by first | exact SlA.len (by assumption) rfl | exact Sl.map (by assumption) rfl | exact Sl.len (by assumption) rfl) ?_)
      refine pops.atA rfl rfl rfl rfl rfl rfl rfl hx hl fun p u hp hu => ?_
      refine zR rfl rfl rfl rfl rfl (by first | assumption | exact cload_of (by assumption) rfl) ?_
      refine zP rfl rfl rfl rfl rfl ?_
      refine pops.atI (f := Value.int .i64) rfl rfl rfl rfl rfl rfl rfl hu hxl fun p' hp' => ?_
      repeat (first | refine zT rfl rfl rfl rfl rfl rfl (cbin_inc (by omega)) ?_ | refine zY rfl rfl rfl rfl rfl rfl ?_ | refine zQ rfl rfl rfl ?_ | refine zR rfl rfl rfl rfl rfl (by first | assumption | exact cload_of (by assumption) rfl) ?_ | refine zS rfl rfl rfl rfl rfl rfl rfl rfl (by first | exact SlA.len (by assumption) rfl | exact Sl.map (by assumption) rfl | exact Sl.len (by assumption) rfl) ?_)
      refine zZ rfl rfl rfl rfl rfl (fun q5 => ?_) (fun q5 => ?_)
      · repeat (first | refine zT rfl rfl rfl rfl rfl rfl (cbin_inc (by omega)) ?_ | refine zP rfl rfl rfl rfl rfl ?_ | refine zQ rfl rfl rfl ?_ | refine zR rfl rfl rfl rfl rfl (by first | assumption | exact cload_of (by assumption) rfl) ?_ | refine zS rfl rfl rfl rfl rfl rfl rfl rfl (by first | exact SlA.len (by assumption) rfl | exact Sl.map (by assumption) rfl | exact Sl.len (by assumption) rfl) ?_)
        refine pops.nil ?_
        repeat (first | refine zA ?_ | refine zB ?_ | refine zC ?_ | refine zD ?_ | refine zE ?_ | refine zF ?_ | refine zG rfl ?_ | refine zH ?_ | refine zI ?_ | refine zJ ?_ | refine zK ?_ | refine zL ?_ | refine zM ?_ | refine zN ?_ | refine zO ?_)
        refine pcond.t rfl ?_
        repeat (first | refine zA ?_ | refine zB ?_ | refine zC ?_ | refine zD ?_ | refine zE ?_ | refine zF ?_ | refine zG rfl ?_ | refine zH ?_ | refine zI ?_ | refine zJ ?_ | refine zK ?_ | refine zL ?_ | refine zM ?_ | refine zN ?_ | refine zO ?_)
        repeat (first | refine zT rfl rfl rfl rfl rfl rfl (cbin_inc (by omega)) ?_ | refine zP rfl rfl rfl rfl rfl ?_ | refine zQ rfl rfl rfl ?_ | refine zR rfl rfl rfl rfl rfl (by first | assumption | exact cload_of (by assumption) rfl) ?_ | refine zS rfl rfl rfl rfl rfl rfl rfl rfl (by first | exact SlA.len (by assumption) rfl | exact Sl.map (by assumption) rfl | exact Sl.len (by assumption) rfl) ?_)
        refine pops.nil ?_
        repeat (first | refine zA ?_ | refine zB ?_ | refine zC ?_ | refine zD ?_ | refine zE ?_ | refine zF ?_ | refine zG rfl ?_ | refine zH ?_ | refine zI ?_ | refine zJ ?_ | refine zK ?_ | refine zL ?_ | refine zM ?_ | refine zN ?_ | refine zO ?_)
        refine pleave.r rfl ?_
        refine ⟨?_, g1⟩
        rw [bad]
        intro hS
        have := ((hS.1 l hl).2 x (List.mem_of_getElem? hxl)).1
        simp at q5
        omega
      repeat (first | refine zT rfl rfl rfl rfl rfl rfl (cbin_inc (by omega)) ?_ | refine zY rfl rfl rfl rfl rfl rfl ?_ | refine zQ rfl rfl rfl ?_ | refine zR rfl rfl rfl rfl rfl (by first | assumption | exact cload_of (by assumption) rfl) ?_ | refine zS rfl rfl rfl rfl rfl rfl rfl rfl (by first | exact SlA.len (by assumption) rfl | exact Sl.map (by assumption) rfl | exact Sl.len (by assumption) rfl) ?_)
      refine pops.atA rfl rfl rfl rfl rfl rfl rfl hx hl fun p2 u2 hp2 hu2 => ?_
      refine zR rfl rfl rfl rfl rfl (by first | assumption | exact cload_of (by assumption) rfl) ?_
      refine zP rfl rfl rfl rfl rfl ?_
      refine pops.atI (f := Value.int .i64) rfl rfl rfl rfl rfl rfl rfl hu2 hxl fun p3 hp3 => ?_
      repeat (first | refine zT rfl rfl rfl rfl rfl rfl (cbin_inc (by omega)) ?_ | refine zY rfl rfl rfl rfl rfl rfl ?_ | refine zQ rfl rfl rfl ?_ | refine zR rfl rfl rfl rfl rfl (by first | assumption | exact cload_of (by assumption) rfl) ?_ | refine zS rfl rfl rfl rfl rfl rfl rfl rfl (by first | exact SlA.len (by assumption) rfl | exact Sl.map (by assumption) rfl | exact Sl.len (by assumption) rfl) ?_)
      refine zZ rfl rfl rfl rfl rfl (fun q6 => ?_) (fun q6 => ?_)
      · repeat (first | refine zT rfl rfl rfl rfl rfl rfl (cbin_inc (by omega)) ?_ | refine zP rfl rfl rfl rfl rfl ?_ | refine zQ rfl rfl rfl ?_ | refine zR rfl rfl rfl rfl rfl (by first | assumption | exact cload_of (by assumption) rfl) ?_ | refine zS rfl rfl rfl rfl rfl rfl rfl rfl (by first | exact SlA.len (by assumption) rfl | exact Sl.map (by assumption) rfl | exact Sl.len (by assumption) rfl) ?_)
        refine pops.nil ?_
        repeat (first | refine zA ?_ | refine zB ?_ | refine zC ?_ | refine zD ?_ | refine zE ?_ | refine zF ?_ | refine zG rfl ?_ | refine zH ?_ | refine zI ?_ | refine zJ ?_ | refine zK ?_ | refine zL ?_ | refine zM ?_ | refine zN ?_ | refine zO ?_)
        refine pcond.t rfl ?_
        repeat (first | refine zA ?_ | refine zB ?_ | refine zC ?_ | refine zD ?_ | refine zE ?_ | refine zF ?_ | refine zG rfl ?_ | refine zH ?_ | refine zI ?_ | refine zJ ?_ | refine zK ?_ | refine zL ?_ | refine zM ?_ | refine zN ?_ | refine zO ?_)
        repeat (first | refine zT rfl rfl rfl rfl rfl rfl (cbin_inc (by omega)) ?_ | refine zP rfl rfl rfl rfl rfl ?_ | refine zQ rfl rfl rfl ?_ | refine zR rfl rfl rfl rfl rfl (by first | assumption | exact cload_of (by assumption) rfl) ?_ | refine zS rfl rfl rfl rfl rfl rfl rfl rfl (by first | exact SlA.len (by assumption) rfl | exact Sl.map (by assumption) rfl | exact Sl.len (by assumption) rfl) ?_)
        refine pops.nil ?_
        repeat (first | refine zA ?_ | refine zB ?_ | refine zC ?_ | refine zD ?_ | refine zE ?_ | refine zF ?_ | refine zG rfl ?_ | refine zH ?_ | refine zI ?_ | refine zJ ?_ | refine zK ?_ | refine zL ?_ | refine zM ?_ | refine zN ?_ | refine zO ?_)
        refine pleave.r rfl ?_
        refine ⟨?_, g1⟩
        rw [bad]
        intro hS
        have := ((hS.1 l hl).2 x (List.mem_of_getElem? hxl)).2
        simp at q6
        omega
      simp at q5 q6
      repeat (first | refine zT rfl rfl rfl rfl rfl rfl (cbin_inc (by omega)) ?_ | refine zP rfl rfl rfl rfl rfl ?_ | refine zQ rfl rfl rfl ?_ | refine zR rfl rfl rfl rfl rfl (by first | assumption | exact cload_of (by assumption) rfl) ?_ | refine zS rfl rfl rfl rfl rfl rfl rfl rfl (by first | exact SlA.len (by assumption) rfl | exact Sl.map (by assumption) rfl | exact Sl.len (by assumption) rfl) ?_)
      refine pops.nil ?_
      repeat (first | refine zA ?_ | refine zB ?_ | refine zC ?_ | refine zD ?_ | refine zE ?_ | refine zF ?_ | refine zG rfl ?_ | refine zH ?_ | refine zI ?_ | refine zJ ?_ | refine zK ?_ | refine zL ?_ | refine zM ?_ | refine zN ?_ | refine zO ?_)
      refine pcond.f rfl ?_
      repeat (first | refine zA ?_ | refine zB ?_ | refine zC ?_ | refine zD ?_ | refine zE ?_ | refine zF ?_ | refine zG rfl ?_ | refine zH ?_ | refine zI ?_ | refine zJ ?_ | refine zK ?_ | refine zL ?_ | refine zM ?_ | refine zN ?_ | refine zO ?_)
      repeat (first | refine zT rfl rfl rfl rfl rfl rfl (cbin_inc (by omega)) ?_ | refine zP rfl rfl rfl rfl rfl ?_ | refine zQ rfl rfl rfl ?_ | refine zR rfl rfl rfl rfl rfl (by first | assumption | exact cload_of (by assumption) rfl) ?_ | refine zS rfl rfl rfl rfl rfl rfl rfl rfl (by first | exact SlA.len (by assumption) rfl | exact Sl.map (by assumption) rfl | exact Sl.len (by assumption) rfl) ?_)
      refine pops.nil ?_
      refine .n ⟨_, k + 1, rfl, ⟨rfl, rfl, rfl, rfl, rfl, rfl, rfl, trivial⟩, (by show classes - (k + 1) < classes - k; omega), by omega, rfl, all_next hkall hxl ⟨by omega, by omega⟩⟩
    · repeat (first | refine zA ?_ | refine zB ?_ | refine zC ?_ | refine zD ?_ | refine zE ?_ | refine zF ?_ | refine zG rfl ?_ | refine zH ?_ | refine zI ?_ | refine zJ ?_ | refine zK ?_ | refine zL ?_ | refine zM ?_ | refine zN ?_ | refine zO ?_)
      have hL : ∀ x, x ∈ l → 0 ≤ x ∧ x < (a.next.length : Int) := all_end hkall (by omega)
      repeat (first | refine zT rfl rfl rfl rfl rfl rfl (cbin_inc (by omega)) ?_ | refine zP rfl rfl rfl rfl rfl ?_ | refine zQ rfl rfl rfl ?_ | refine zR rfl rfl rfl rfl rfl (by first | assumption | exact cload_of (by assumption) rfl) ?_ | refine zS rfl rfl rfl rfl rfl rfl rfl rfl (by first | exact SlA.len (by assumption) rfl | exact Sl.map (by assumption) rfl | exact Sl.len (by assumption) rfl) ?_)
      refine pops.nil ?_
      repeat (first | refine zA ?_ | refine zB ?_ | refine zC ?_ | refine zD ?_ | refine zE ?_ | refine zF ?_ | refine zG rfl ?_ | refine zH ?_ | refine zI ?_ | refine zJ ?_ | refine zK ?_ | refine zL ?_ | refine zM ?_ | refine zN ?_ | refine zO ?_)
      repeat (first | refine zT rfl rfl rfl rfl rfl rfl (cbin_inc (by omega)) ?_ | refine zP rfl rfl rfl rfl rfl ?_ | refine zQ rfl rfl rfl ?_ | refine zR rfl rfl rfl rfl rfl (by first | assumption | exact cload_of (by assumption) rfl) ?_ | refine zS rfl rfl rfl rfl rfl rfl rfl rfl (by first | exact SlA.len (by assumption) rfl | exact Sl.map (by assumption) rfl | exact Sl.len (by assumption) rfl) ?_)
      refine pops.nil ?_
      repeat (first | refine zA ?_ | refine zB ?_ | refine zC ?_ | refine zD ?_ | refine zE ?_ | refine zF ?_ | refine zG rfl ?_ | refine zH ?_ | refine zI ?_ | refine zJ ?_ | refine zK ?_ | refine zL ?_ | refine zM ?_ | refine zN ?_ | refine zO ?_)
      refine Loops.ind 7 (fun s : Nat × Int => [(1, .int .i64 (classes : Int)), (2, .int .i64 (rules : Int)), (3, .pointer (some ⟨b, 0, none⟩)), (6, .bool false), (7, .int .i64 (a.next.length : Nat)), (8, .int .i64 (i : Nat)), (10, .int .i64 s.2), (11, .int .i64 (s.1 : Nat))])
        (fun s h1 => s.1 ≤ m.length ∧ h1 = h'' ∧ (∀ j, j < s.1 → MarkAt rules m j) ∧ (s.1 = 0 → s.2 = -1) ∧ (0 < s.1 → m[s.1 - 1]? = some s.2))
        (fun s => m.length - s.1) (0, -1) (by decide) ⟨rfl, rfl, rfl, rfl, rfl, rfl, rfl, rfl, trivial⟩ ⟨Nat.zero_le _, rfl, fun j hj => absurd hj (Nat.not_lt_zero j), fun _ => rfl, fun hh => absurd hh (Nat.lt_irrefl 0)⟩ ?_
      clear hk hkall hkge k
      rintro ⟨k, last⟩ z h2 hwf2 ⟨hk, rfl, hmall, hl0, hl1⟩
      simp only at hk hmall hl0 hl1
      repeat (first | refine zA ?_ | refine zB ?_ | refine zC ?_ | refine zD ?_ | refine zE ?_ | refine zF ?_ | refine zG rfl ?_ | refine zH ?_ | refine zI ?_ | refine zJ ?_ | refine zK ?_ | refine zL ?_ | refine zM ?_ | refine zN ?_ | refine zO ?_)
      repeat (first | refine zT rfl rfl rfl rfl rfl rfl (cbin_inc (by omega)) ?_ | refine zY rfl rfl rfl rfl rfl rfl ?_ | refine zQ rfl rfl rfl ?_ | refine zR rfl rfl rfl rfl rfl (by first | assumption | exact cload_of (by assumption) rfl) ?_ | refine zS rfl rfl rfl rfl rfl rfl rfl rfl (by first | exact SlA.len (by assumption) rfl | exact Sl.map (by assumption) rfl | exact Sl.len (by assumption) rfl) ?_)
      refine pops.atA rfl rfl rfl rfl rfl rfl rfl hy hm fun p u hp hu => ?_
      have lm := hu.lt
      repeat (first | refine zT rfl rfl rfl rfl rfl rfl (cbin_inc (by omega)) ?_ | refine zP rfl rfl rfl rfl rfl ?_ | refine zQ rfl rfl rfl ?_ | refine zR rfl rfl rfl rfl rfl (by first | assumption | exact cload_of (by assumption) rfl) ?_ | refine zS rfl rfl rfl rfl rfl rfl rfl rfl (by first | exact SlA.len (by assumption) rfl | exact Sl.map (by assumption) rfl | exact Sl.len (by assumption) rfl) ?_)
      refine pops.nil ?_
      repeat (first | refine zA ?_ | refine zB ?_ | refine zC ?_ | refine zD ?_ | refine zE ?_ | refine zF ?_ | refine zG rfl ?_ | refine zH ?_ | refine zI ?_ | refine zJ ?_ | refine zK ?_ | refine zL ?_ | refine zM ?_ | refine zN ?_ | refine zO ?_)
      refine pcond.d (p := (k : Int) < (m.length : Nat)) rfl (fun hklt => ?_) (fun hkge => ?_)
      · have hklt : k < m.length := by omega
        obtain ⟨x, hxm⟩ : ∃ x, m[k]? = some x := ⟨_, List.getElem?_eq_getElem hklt⟩
        have badm : ¬ MarkAt rules m k → tt (ShapeP a classes rules) = false := fun hn => bad fun hS => hn (hS.2 m hm k)
        repeat (first | refine zA ?_ | refine zB ?_ | refine zC ?_ | refine zD ?_ | refine zE ?_ | refine zF ?_ | refine zG rfl ?_ | refine zH ?_ | refine zI ?_ | refine zJ ?_ | refine zK ?_ | refine zL ?_ | refine zM ?_ | refine zN ?_ | refine zO ?_)
        repeat (first | refine zT rfl rfl rfl rfl rfl rfl (cbin_inc (by omega)) ?_ | refine zY rfl rfl rfl rfl rfl rfl ?_ | refine zQ rfl rfl rfl ?_ | refine zR rfl rfl rfl rfl rfl (by first | assumption | exact cload_of (by assumption) rfl) ?_ | refine zS rfl rfl rfl rfl rfl rfl rfl rfl (by first | exact SlA.len (by assumption) rfl | exact Sl.map (by assumption) rfl | exact Sl.len (by assumption) rfl) ?_)
        refine pops.atA rfl rfl rfl rfl rfl rfl rfl hy hm fun p1 u1 hp1 hu1 => ?_
        refine zR rfl rfl rfl rfl rfl (by first | assumption | exact cload_of (by assumption) rfl) ?_
        refine zP rfl rfl rfl rfl rfl ?_
        refine pops.atI (f := Value.int .i64) rfl rfl rfl rfl rfl rfl rfl hu1 hxm fun p2 hp2 => ?_
        repeat (first | refine zT rfl rfl rfl rfl rfl rfl (cbin_inc (by omega)) ?_ | refine zY rfl rfl rfl rfl rfl rfl ?_ | refine zQ rfl rfl rfl ?_ | refine zR rfl rfl rfl rfl rfl (by first | assumption | exact cload_of (by assumption) rfl) ?_ | refine zS rfl rfl rfl rfl rfl rfl rfl rfl (by first | exact SlA.len (by assumption) rfl | exact Sl.map (by assumption) rfl | exact Sl.len (by assumption) rfl) ?_)
        refine zZ rfl rfl rfl rfl rfl (fun q5 => ?_) (fun q5 => ?_)
        · repeat (first | refine zT rfl rfl rfl rfl rfl rfl (cbin_inc (by omega)) ?_ | refine zP rfl rfl rfl rfl rfl ?_ | refine zQ rfl rfl rfl ?_ | refine zR rfl rfl rfl rfl rfl (by first | assumption | exact cload_of (by assumption) rfl) ?_ | refine zS rfl rfl rfl rfl rfl rfl rfl rfl (by first | exact SlA.len (by assumption) rfl | exact Sl.map (by assumption) rfl | exact Sl.len (by assumption) rfl) ?_)
          refine pops.nil ?_
          repeat (first | refine zA ?_ | refine zB ?_ | refine zC ?_ | refine zD ?_ | refine zE ?_ | refine zF ?_ | refine zG rfl ?_ | refine zH ?_ | refine zI ?_ | refine zJ ?_ | refine zK ?_ | refine zL ?_ | refine zM ?_ | refine zN ?_ | refine zO ?_)
          refine pcond.t rfl ?_
          repeat (first | refine zA ?_ | refine zB ?_ | refine zC ?_ | refine zD ?_ | refine zE ?_ | refine zF ?_ | refine zG rfl ?_ | refine zH ?_ | refine zI ?_ | refine zJ ?_ | refine zK ?_ | refine zL ?_ | refine zM ?_ | refine zN ?_ | refine zO ?_)
          repeat (first | refine zT rfl rfl rfl rfl rfl rfl (cbin_inc (by omega)) ?_ | refine zP rfl rfl rfl rfl rfl ?_ | refine zQ rfl rfl rfl ?_ | refine zR rfl rfl rfl rfl rfl (by first | assumption | exact cload_of (by assumption) rfl) ?_ | refine zS rfl rfl rfl rfl rfl rfl rfl rfl (by first | exact SlA.len (by assumption) rfl | exact Sl.map (by assumption) rfl | exact Sl.len (by assumption) rfl) ?_)
          refine pops.nil ?_
          repeat (first | refine zA ?_ | refine zB ?_ | refine zC ?_ | refine zD ?_ | refine zE ?_ | refine zF ?_ | refine zG rfl ?_ | refine zH ?_ | refine zI ?_ | refine zJ ?_ | refine zK ?_ | refine zL ?_ | refine zM ?_ | refine zN ?_ | refine zO ?_)
          refine pleave.r rfl ?_
          refine ⟨?_, g1⟩
          rw [badm]
          intro hM
          obtain ⟨h5, h6, h7⟩ := hM x hxm
          simp at q5
          rcases Nat.eq_zero_or_pos k with hk0 | hk0
          · have := hl0 hk0
            omega
          · have := h7 last hk0 (hl1 hk0)
            omega
        repeat (first | refine zT rfl rfl rfl rfl rfl rfl (cbin_inc (by omega)) ?_ | refine zY rfl rfl rfl rfl rfl rfl ?_ | refine zQ rfl rfl rfl ?_ | refine zR rfl rfl rfl rfl rfl (by first | assumption | exact cload_of (by assumption) rfl) ?_ | refine zS rfl rfl rfl rfl rfl rfl rfl rfl (by first | exact SlA.len (by assumption) rfl | exact Sl.map (by assumption) rfl | exact Sl.len (by assumption) rfl) ?_)
        refine pops.atA rfl rfl rfl rfl rfl rfl rfl hy hm fun p3 u3 hp3 hu3 => ?_
        refine zR rfl rfl rfl rfl rfl (by first | assumption | exact cload_of (by assumption) rfl) ?_
        refine zP rfl rfl rfl rfl rfl ?_
        refine pops.atI (f := Value.int .i64) rfl rfl rfl rfl rfl rfl rfl hu3 hxm fun p4 hp4 => ?_
        repeat (first | refine zT rfl rfl rfl rfl rfl rfl (cbin_inc (by omega)) ?_ | refine zY rfl rfl rfl rfl rfl rfl ?_ | refine zQ rfl rfl rfl ?_ | refine zR rfl rfl rfl rfl rfl (by first | assumption | exact cload_of (by assumption) rfl) ?_ | refine zS rfl rfl rfl rfl rfl rfl rfl rfl (by first | exact SlA.len (by assumption) rfl | exact Sl.map (by assumption) rfl | exact Sl.len (by assumption) rfl) ?_)
        refine zZ rfl rfl rfl rfl rfl (fun q6 => ?_) (fun q6 => ?_)
        · repeat (first | refine zT rfl rfl rfl rfl rfl rfl (cbin_inc (by omega)) ?_ | refine zP rfl rfl rfl rfl rfl ?_ | refine zQ rfl rfl rfl ?_ | refine zR rfl rfl rfl rfl rfl (by first | assumption | exact cload_of (by assumption) rfl) ?_ | refine zS rfl rfl rfl rfl rfl rfl rfl rfl (by first | exact SlA.len (by assumption) rfl | exact Sl.map (by assumption) rfl | exact Sl.len (by assumption) rfl) ?_)
          refine pops.nil ?_
          repeat (first | refine zA ?_ | refine zB ?_ | refine zC ?_ | refine zD ?_ | refine zE ?_ | refine zF ?_ | refine zG rfl ?_ | refine zH ?_ | refine zI ?_ | refine zJ ?_ | refine zK ?_ | refine zL ?_ | refine zM ?_ | refine zN ?_ | refine zO ?_)
          refine pcond.t rfl ?_
          repeat (first | refine zA ?_ | refine zB ?_ | refine zC ?_ | refine zD ?_ | refine zE ?_ | refine zF ?_ | refine zG rfl ?_ | refine zH ?_ | refine zI ?_ | refine zJ ?_ | refine zK ?_ | refine zL ?_ | refine zM ?_ | refine zN ?_ | refine zO ?_)
          repeat (first | refine zT rfl rfl rfl rfl rfl rfl (cbin_inc (by omega)) ?_ | refine zP rfl rfl rfl rfl rfl ?_ | refine zQ rfl rfl rfl ?_ | refine zR rfl rfl rfl rfl rfl (by first | assumption | exact cload_of (by assumption) rfl) ?_ | refine zS rfl rfl rfl rfl rfl rfl rfl rfl (by first | exact SlA.len (by assumption) rfl | exact Sl.map (by assumption) rfl | exact Sl.len (by assumption) rfl) ?_)
          refine pops.nil ?_
          repeat (first | refine zA ?_ | refine zB ?_ | refine zC ?_ | refine zD ?_ | refine zE ?_ | refine zF ?_ | refine zG rfl ?_ | refine zH ?_ | refine zI ?_ | refine zJ ?_ | refine zK ?_ | refine zL ?_ | refine zM ?_ | refine zN ?_ | refine zO ?_)
          refine pleave.r rfl ?_
          refine ⟨?_, g1⟩
          rw [badm]
          intro hM
          have := (hM x hxm).2.1
          simp at q6
          omega
        simp at q5 q6
        repeat (first | refine zT rfl rfl rfl rfl rfl rfl (cbin_inc (by omega)) ?_ | refine zP rfl rfl rfl rfl rfl ?_ | refine zQ rfl rfl rfl ?_ | refine zR rfl rfl rfl rfl rfl (by first | assumption | exact cload_of (by assumption) rfl) ?_ | refine zS rfl rfl rfl rfl rfl rfl rfl rfl (by first | exact SlA.len (by assumption) rfl | exact Sl.map (by assumption) rfl | exact Sl.len (by assumption) rfl) ?_)
        refine pops.nil ?_
        repeat (first | refine zA ?_ | refine zB ?_ | refine zC ?_ | refine zD ?_ | refine zE ?_ | refine zF ?_ | refine zG rfl ?_ | refine zH ?_ | refine zI ?_ | refine zJ ?_ | refine zK ?_ | refine zL ?_ | refine zM ?_ | refine zN ?_ | refine zO ?_)
        refine pcond.f rfl ?_
        repeat (first | refine zA ?_ | refine zB ?_ | refine zC ?_ | refine zD ?_ | refine zE ?_ | refine zF ?_ | refine zG rfl ?_ | refine zH ?_ | refine zI ?_ | refine zJ ?_ | refine zK ?_ | refine zL ?_ | refine zM ?_ | refine zN ?_ | refine zO ?_)
        repeat (first | refine zT rfl rfl rfl rfl rfl rfl (cbin_inc (by omega)) ?_ | refine zY rfl rfl rfl rfl rfl rfl ?_ | refine zQ rfl rfl rfl ?_ | refine zR rfl rfl rfl rfl rfl (by first | assumption | exact cload_of (by assumption) rfl) ?_ | refine zS rfl rfl rfl rfl rfl rfl rfl rfl (by first | exact SlA.len (by assumption) rfl | exact Sl.map (by assumption) rfl | exact Sl.len (by assumption) rfl) ?_)
        refine pops.atA rfl rfl rfl rfl rfl rfl rfl hy hm fun p5 u5 hp5 hu5 => ?_
        refine zR rfl rfl rfl rfl rfl (by first | assumption | exact cload_of (by assumption) rfl) ?_
        refine zP rfl rfl rfl rfl rfl ?_
        refine pops.atI (f := Value.int .i64) rfl rfl rfl rfl rfl rfl rfl hu5 hxm fun p6 hp6 => ?_
        repeat (first | refine zT rfl rfl rfl rfl rfl rfl (cbin_inc (by omega)) ?_ | refine zP rfl rfl rfl rfl rfl ?_ | refine zQ rfl rfl rfl ?_ | refine zR rfl rfl rfl rfl rfl (by first | assumption | exact cload_of (by assumption) rfl) ?_ | refine zS rfl rfl rfl rfl rfl rfl rfl rfl (by first | exact SlA.len (by assumption) rfl | exact Sl.map (by assumption) rfl | exact Sl.len (by assumption) rfl) ?_)
        refine pops.nil ?_
        repeat (first | refine zA ?_ | refine zB ?_ | refine zC ?_ | refine zD ?_ | refine zE ?_ | refine zF ?_ | refine zG rfl ?_ | refine zH ?_ | refine zI ?_ | refine zJ ?_ | refine zK ?_ | refine zL ?_ | refine zM ?_ | refine zN ?_ | refine zO ?_)
        repeat (first | refine zT rfl rfl rfl rfl rfl rfl (cbin_inc (by omega)) ?_ | refine zP rfl rfl rfl rfl rfl ?_ | refine zQ rfl rfl rfl ?_ | refine zR rfl rfl rfl rfl rfl (by first | assumption | exact cload_of (by assumption) rfl) ?_ | refine zS rfl rfl rfl rfl rfl rfl rfl rfl (by first | exact SlA.len (by assumption) rfl | exact Sl.map (by assumption) rfl | exact Sl.len (by assumption) rfl) ?_)
        refine pops.nil ?_
        refine .n ⟨_, (k + 1, x), rfl, ⟨rfl, rfl, rfl, rfl, rfl, rfl, rfl, rfl, trivial⟩, (by show m.length - (k + 1) < m.length - k; omega), by show k + 1 ≤ m.length; omega, rfl, fun j hj => ?_, fun hh => absurd hh (Nat.succ_ne_zero k), fun _ => hxm⟩
        simp only at hj
        rcases Nat.lt_or_ge j k with h1 | h1
        · exact hmall j h1
        · obtain rfl : j = k := by omega
          intro x' hx'
          rw [hxm] at hx'
          cases hx'
          rcases Nat.eq_zero_or_pos j with hk0 | hk0
          · have := hl0 hk0
            exact ⟨by omega, by omega, fun y' hh => by omega⟩
          · have h8 := hl1 hk0
            have h9 := (hmall (j - 1) (by omega) last h8).1
            refine ⟨by omega, by omega, fun y' _ hy' => ?_⟩
            rw [h8] at hy'
            cases hy'
            omega
      · repeat (first | refine zA ?_ | refine zB ?_ | refine zC ?_ | refine zD ?_ | refine zE ?_ | refine zF ?_ | refine zG rfl ?_ | refine zH ?_ | refine zI ?_ | refine zJ ?_ | refine zK ?_ | refine zL ?_ | refine zM ?_ | refine zN ?_ | refine zO ?_)
        repeat (first | refine zT rfl rfl rfl rfl rfl rfl (cbin_inc (by omega)) ?_ | refine zP rfl rfl rfl rfl rfl ?_ | refine zQ rfl rfl rfl ?_ | refine zR rfl rfl rfl rfl rfl (by first | assumption | exact cload_of (by assumption) rfl) ?_ | refine zS rfl rfl rfl rfl rfl rfl rfl rfl (by first | exact SlA.len (by assumption) rfl | exact Sl.map (by assumption) rfl | exact Sl.len (by assumption) rfl) ?_)
        refine pops.nil ?_
        refine .n ⟨_, i + 1, rfl, ⟨rfl, rfl, rfl, rfl, rfl, rfl, trivial⟩, (by show a.next.length - (i + 1) < a.next.length - i; omega), by omega, rfl, fun j hj => ?_⟩
        rcases Nat.lt_or_ge j i with h1 | h1
        · exact hall j h1
        · obtain rfl : j = i := by omega
          refine ⟨fun l' hl' => ?_, fun m' hm' k' => ?_⟩
          · rw [hl] at hl'
            cases hl'
            exact ⟨hlc, hL⟩
          · rw [hm] at hm'
            cases hm'
            rcases Nat.lt_or_ge k' k with h7 | h7
            · exact hmall k' h7
            · intro x hx
              have := (List.getElem?_eq_some_iff.1 hx).1
              omega
  · repeat (first | refine zA ?_ | refine zB ?_ | refine zC ?_ | refine zD ?_ | refine zE ?_ | refine zF ?_ | refine zG rfl ?_ | refine zH ?_ | refine zI ?_ | refine zJ ?_ | refine zK ?_ | refine zL ?_ | refine zM ?_ | refine zN ?_ | refine zO ?_)
    repeat (first | refine zT rfl rfl rfl rfl rfl rfl (cbin_inc (by omega)) ?_ | refine zP rfl rfl rfl rfl rfl ?_ | refine zQ rfl rfl rfl ?_ | refine zR rfl rfl rfl rfl rfl (by first | assumption | exact cload_of (by assumption) rfl) ?_ | refine zS rfl rfl rfl rfl rfl rfl rfl rfl (by first | exact SlA.len (by assumption) rfl | exact Sl.map (by assumption) rfl | exact Sl.len (by assumption) rfl) ?_)
    refine pops.nil ?_
    repeat (first | refine zA ?_ | refine zB ?_ | refine zC ?_ | refine zD ?_ | refine zE ?_ | refine zF ?_ | refine zG rfl ?_ | refine zH ?_ | refine zI ?_ | refine zJ ?_ | refine zK ?_ | refine zL ?_ | refine zM ?_ | refine zN ?_ | refine zO ?_)
    refine pleave.r rfl ?_
    refine ⟨?_, g1⟩
    rw [tt_t (p := ShapeP a classes rules) ⟨n1, n2, n3, fun j hj => hall j (by omega)⟩]
end Go.Proofs.YtpcoponpfhnhlaaGreatDoor
set_option maxRecDepth 100000
set_option linter.unusedVariables false
set_option linter.unusedSimpArgs false
namespace Go.Proofs.YtpcoponpfhnhlaaGreatDoor
open Go.Cx
variable {w : World} {h : CH}
theorem fn_refvalid : tab.fn 11 = some Tryz.f11 := by kernel_rfl
theorem refvalid_calls {v : Value} {t : TabD} (hv : TabV tab ks h v t) (hlen : TextsLt t.classes) : CalF (X w) 11 [v] h fun r h' => r = .ret (.bool (tt (ValidP t))) ∧ Gr h h' := by
  refine CalF.wf fun hwf => ?_
  obtain ⟨c, a, x, y, x', y', rfl, ho, hcl, hac, hx, hy, hx', hy'⟩ := hv
  simp only [Bool.and_eq_true] at ho
  refine CalF.intro fn_refvalid rfl (Nat.le_of_ble_eq_true rfl) ?_
  repeat (first | refine zA ?_ | refine zB ?_ | refine zC ?_ | refine zD ?_ | refine zE ?_ | refine zF ?_ | refine zG rfl ?_ | refine zH ?_ | refine zI ?_ | refine zJ ?_ | refine zK ?_ | refine zL ?_ | refine zM ?_ | refine zN ?_ | refine zO ?_)
  refine pops.box (cs := [c, a, x, y, x', y']) rfl rfl rfl rfl (by simp [ho]) rfl rfl hwf fun b h1 hb hwf1 g1 hc => ?_
  replace hcl := Sl.gr hcl hwf g1
  replace hac := Sl.gr hac hwf g1
  replace hx := hx.gr hwf g1
  replace hy := hy.gr hwf g1
  replace hx' := hx'.gr hwf g1
  replace hy' := hy'.gr hwf g1
  have la := hac.1
  rw [List.length_map] at la
  have lc := hcl.1
  rw [List.length_map] at lc
  refine zP rfl rfl rfl rfl rfl ?_
  refine pops.nil ?_
  repeat (first | refine zA ?_ | refine zB ?_ | refine zC ?_ | refine zD ?_ | refine zE ?_ | refine zF ?_ | refine zG rfl ?_ | refine zH ?_ | refine zI ?_ | refine zJ ?_ | refine zK ?_ | refine zL ?_ | refine zM ?_ | refine zN ?_ | refine zO ?_)
  repeat (first | refine zT rfl rfl rfl rfl rfl rfl (cbin_inc (by omega)) ?_ | refine zP rfl rfl rfl rfl rfl ?_ | refine zQ rfl rfl rfl ?_ | refine zR rfl rfl rfl rfl rfl (by first | assumption | exact cload_of (by assumption) rfl) ?_ | refine zS rfl rfl rfl rfl rfl rfl rfl rfl (by first | exact SlA.len (by assumption) rfl | exact Sl.map (by assumption) rfl | exact Sl.len (by assumption) rfl) ?_)
  refine pops.nil ?_
  repeat (first | refine zA ?_ | refine zB ?_ | refine zC ?_ | refine zD ?_ | refine zE ?_ | refine zF ?_ | refine zG rfl ?_ | refine zH ?_ | refine zI ?_ | refine zJ ?_ | refine zK ?_ | refine zL ?_ | refine zM ?_ | refine zN ?_ | refine zO ?_)
  refine Loops.ind 6 (fun i : Nat => [(1, .pointer (some ⟨b, 0, none⟩)), (2, .bool false), (3, .int .i64 (i : Nat))])
    (fun i h' => i ≤ t.actions.length ∧ h' = h1 ∧ ∀ (j : Nat) x, j < i → t.actions[j]? = some x → 1 ≤ x ∧ x ≤ 3)
    (fun i => t.actions.length - i) 0 (by decide) ⟨rfl, rfl, rfl, trivial⟩ ⟨Nat.zero_le _, rfl, all_none⟩ ?_
  rintro i z h' hwf' ⟨hi, rfl, hall⟩
  repeat (first | refine zA ?_ | refine zB ?_ | refine zC ?_ | refine zD ?_ | refine zE ?_ | refine zF ?_ | refine zG rfl ?_ | refine zH ?_ | refine zI ?_ | refine zJ ?_ | refine zK ?_ | refine zL ?_ | refine zM ?_ | refine zN ?_ | refine zO ?_)
  repeat (first | refine zT rfl rfl rfl rfl rfl rfl (cbin_inc (by omega)) ?_ | refine zP rfl rfl rfl rfl rfl ?_ | refine zQ rfl rfl rfl ?_ | refine zR rfl rfl rfl rfl rfl (by first | assumption | exact cload_of (by assumption) rfl) ?_ | refine zS rfl rfl rfl rfl rfl rfl rfl rfl (by first | exact SlA.len (by assumption) rfl | exact Sl.map (by assumption) rfl | exact Sl.len (by assumption) rfl) ?_)
  refine pops.nil ?_
  repeat (first | refine zA ?_ | refine zB ?_ | refine zC ?_ | refine zD ?_ | refine zE ?_ | refine zF ?_ | refine zG rfl ?_ | refine zH ?_ | refine zI ?_ | refine zJ ?_ | refine zK ?_ | refine zL ?_ | refine zM ?_ | refine zN ?_ | refine zO ?_)
  refine pcond.d (p := (i : Int) < (t.actions.length : Nat)) rfl (fun hlt => ?_) (fun hge => ?_)
  · have hlt : i < t.actions.length := by omega
    obtain ⟨x, hxa⟩ : ∃ x, t.actions[i]? = some x := ⟨_, List.getElem?_eq_getElem hlt⟩
    repeat (first | refine zA ?_ | refine zB ?_ | refine zC ?_ | refine zD ?_ | refine zE ?_ | refine zF ?_ | refine zG rfl ?_ | refine zH ?_ | refine zI ?_ | refine zJ ?_ | refine zK ?_ | refine zL ?_ | refine zM ?_ | refine zN ?_ | refine zO ?_)
    repeat (first | refine zT rfl rfl rfl rfl rfl rfl (cbin_inc (by omega)) ?_ | refine zY rfl rfl rfl rfl rfl rfl ?_ | refine zQ rfl rfl rfl ?_ | refine zR rfl rfl rfl rfl rfl (by first | assumption | exact cload_of (by assumption) rfl) ?_ | refine zS rfl rfl rfl rfl rfl rfl rfl rfl (by first | exact SlA.len (by assumption) rfl | exact Sl.map (by assumption) rfl | exact Sl.len (by assumption) rfl) ?_)
    refine pops.atI (f := Value.int .i64) rfl rfl rfl rfl rfl rfl rfl hac hxa fun p hp => ?_
    repeat (first | refine zT rfl rfl rfl rfl rfl rfl (cbin_inc (by omega)) ?_ | refine zY rfl rfl rfl rfl rfl rfl ?_ | refine zQ rfl rfl rfl ?_ | refine zR rfl rfl rfl rfl rfl (by first | assumption | exact cload_of (by assumption) rfl) ?_ | refine zS rfl rfl rfl rfl rfl rfl rfl rfl (by first | exact SlA.len (by assumption) rfl | exact Sl.map (by assumption) rfl | exact Sl.len (by assumption) rfl) ?_)
    refine zZ rfl rfl rfl rfl rfl (fun q5 => ?_) (fun q5 => ?_)
    · repeat (first | refine zT rfl rfl rfl rfl rfl rfl (cbin_inc (by omega)) ?_ | refine zP rfl rfl rfl rfl rfl ?_ | refine zQ rfl rfl rfl ?_ | refine zR rfl rfl rfl rfl rfl (by first | assumption | exact cload_of (by assumption) rfl) ?_ | refine zS rfl rfl rfl rfl rfl rfl rfl rfl (by first | exact SlA.len (by assumption) rfl | exact Sl.map (by assumption) rfl | exact Sl.len (by assumption) rfl) ?_)
      refine pops.nil ?_
      repeat (first | refine zA ?_ | refine zB ?_ | refine zC ?_ | refine zD ?_ | refine zE ?_ | refine zF ?_ | refine zG rfl ?_ | refine zH ?_ | refine zI ?_ | refine zJ ?_ | refine zK ?_ | refine zL ?_ | refine zM ?_ | refine zN ?_ | refine zO ?_)
      refine pcond.t rfl ?_
      repeat (first | refine zA ?_ | refine zB ?_ | refine zC ?_ | refine zD ?_ | refine zE ?_ | refine zF ?_ | refine zG rfl ?_ | refine zH ?_ | refine zI ?_ | refine zJ ?_ | refine zK ?_ | refine zL ?_ | refine zM ?_ | refine zN ?_ | refine zO ?_)
      repeat (first | refine zT rfl rfl rfl rfl rfl rfl (cbin_inc (by omega)) ?_ | refine zP rfl rfl rfl rfl rfl ?_ | refine zQ rfl rfl rfl ?_ | refine zR rfl rfl rfl rfl rfl (by first | assumption | exact cload_of (by assumption) rfl) ?_ | refine zS rfl rfl rfl rfl rfl rfl rfl rfl (by first | exact SlA.len (by assumption) rfl | exact Sl.map (by assumption) rfl | exact Sl.len (by assumption) rfl) ?_)
      refine pops.nil ?_
      repeat (first | refine zA ?_ | refine zB ?_ | refine zC ?_ | refine zD ?_ | refine zE ?_ | refine zF ?_ | refine zG rfl ?_ | refine zH ?_ | refine zI ?_ | refine zJ ?_ | refine zK ?_ | refine zL ?_ | refine zM ?_ | refine zN ?_ | refine zO ?_)
      refine pleave.r rfl ?_
      refine ⟨?_, g1⟩
      rw [tt_f]
      intro hV
      have := (hV.2.2.1 x (List.mem_of_getElem? hxa)).1
      simp at q5
      omega
    repeat (first | refine zT rfl rfl rfl rfl rfl rfl (cbin_inc (by omega)) ?_ | refine zY rfl rfl rfl rfl rfl rfl ?_ | refine zQ rfl rfl rfl ?_ | refine zR rfl rfl rfl rfl rfl (by first | assumption | exact cload_of (by assumption) rfl) ?_ | refine zS rfl rfl rfl rfl rfl rfl rfl rfl (by first | exact SlA.len (by assumption) rfl | exact Sl.map (by assumption) rfl | exact Sl.len (by assumption) rfl) ?_)
    refine pops.atI (f := Value.int .i64) rfl rfl rfl rfl rfl rfl rfl hac hxa fun p2 hp2 => ?_
    repeat (first | refine zT rfl rfl rfl rfl rfl rfl (cbin_inc (by omega)) ?_ | refine zY rfl rfl rfl rfl rfl rfl ?_ | refine zQ rfl rfl rfl ?_ | refine zR rfl rfl rfl rfl rfl (by first | assumption | exact cload_of (by assumption) rfl) ?_ | refine zS rfl rfl rfl rfl rfl rfl rfl rfl (by first | exact SlA.len (by assumption) rfl | exact Sl.map (by assumption) rfl | exact Sl.len (by assumption) rfl) ?_)
    refine zZ rfl rfl rfl rfl rfl (fun q6 => ?_) (fun q6 => ?_)
    · repeat (first | refine zT rfl rfl rfl rfl rfl rfl (cbin_inc (by omega)) ?_ | refine zP rfl rfl rfl rfl rfl ?_ | refine zQ rfl rfl rfl ?_ | refine zR rfl rfl rfl rfl rfl (by first | assumption | exact cload_of (by assumption) rfl) ?_ | refine zS rfl rfl rfl rfl rfl rfl rfl rfl (by first | exact SlA.len (by assumption) rfl | exact Sl.map (by assumption) rfl | exact Sl.len (by assumption) rfl) ?_)
      refine pops.nil ?_
      repeat (first | refine zA ?_ | refine zB ?_ | refine zC ?_ | refine zD ?_ | refine zE ?_ | refine zF ?_ | refine zG rfl ?_ | refine zH ?_ | refine zI ?_ | refine zJ ?_ | refine zK ?_ | refine zL ?_ | refine zM ?_ | refine zN ?_ | refine zO ?_)
      refine pcond.t rfl ?_
      repeat (first | refine zA ?_ | refine zB ?_ | refine zC ?_ | refine zD ?_ | refine zE ?_ | refine zF ?_ | refine zG rfl ?_ | refine zH ?_ | refine zI ?_ | refine zJ ?_ | refine zK ?_ | refine zL ?_ | refine zM ?_ | refine zN ?_ | refine zO ?_)
      repeat (first | refine zT rfl rfl rfl rfl rfl rfl (cbin_inc (by omega)) ?_ | refine zP rfl rfl rfl rfl rfl ?_ | refine zQ rfl rfl rfl ?_ | refine zR rfl rfl rfl rfl rfl (by first | assumption | exact cload_of (by assumption) rfl) ?_ | refine zS rfl rfl rfl rfl rfl rfl rfl rfl (by first | exact SlA.len (by assumption) rfl | exact Sl.map (by assumption) rfl | exact Sl.len (by assumption) rfl) ?_)
      refine pops.nil ?_
      repeat (first | refine zA ?_ | refine zB ?_ | refine zC ?_ | refine zD ?_ | refine zE ?_ | refine zF ?_ | refine zG rfl ?_ | refine zH ?_ | refine zI ?_ | refine zJ ?_ | refine zK ?_ | refine zL ?_ | refine zM ?_ | refine zN ?_ | refine zO ?_)
      refine pleave.r rfl ?_
      refine ⟨?_, g1⟩
      rw [tt_f]
      intro hV
      have := (hV.2.2.1 x (List.mem_of_getElem? hxa)).2
      simp at q6
      omega
    simp at q5 q6
    repeat (first | refine zT rfl rfl rfl rfl rfl rfl (cbin_inc (by omega)) ?_ | refine zP rfl rfl rfl rfl rfl ?_ | refine zQ rfl rfl rfl ?_ | refine zR rfl rfl rfl rfl rfl (by first | assumption | exact cload_of (by assumption) rfl) ?_ | refine zS rfl rfl rfl rfl rfl rfl rfl rfl (by first | exact SlA.len (by assumption) rfl | exact Sl.map (by assumption) rfl | exact Sl.len (by assumption) rfl) ?_)
    refine pops.nil ?_
    repeat (first | refine zA ?_ | refine zB ?_ | refine zC ?_ | refine zD ?_ | refine zE ?_ | refine zF ?_ | refine zG rfl ?_ | refine zH ?_ | refine zI ?_ | refine zJ ?_ | refine zK ?_ | refine zL ?_ | refine zM ?_ | refine zN ?_ | refine zO ?_)
    refine pcond.f rfl ?_
    repeat (first | refine zA ?_ | refine zB ?_ | refine zC ?_ | refine zD ?_ | refine zE ?_ | refine zF ?_ | refine zG rfl ?_ | refine zH ?_ | refine zI ?_ | refine zJ ?_ | refine zK ?_ | refine zL ?_ | refine zM ?_ | refine zN ?_ | refine zO ?_)
    repeat (first | refine zT rfl rfl rfl rfl rfl rfl (cbin_inc (by omega)) ?_ | refine zP rfl rfl rfl rfl rfl ?_ | refine zQ rfl rfl rfl ?_ | refine zR rfl rfl rfl rfl rfl (by first | assumption | exact cload_of (by assumption) rfl) ?_ | refine zS rfl rfl rfl rfl rfl rfl rfl rfl (by first | exact SlA.len (by assumption) rfl | exact Sl.map (by assumption) rfl | exact Sl.len (by assumption) rfl) ?_)
    refine pops.nil ?_
    refine .n ⟨_, i + 1, rfl, ⟨rfl, rfl, rfl, trivial⟩, (by show t.actions.length - (i + 1) < t.actions.length - i; omega), by omega, rfl, all_next hall hxa ⟨by omega, by omega⟩⟩
  · repeat (first | refine zA ?_ | refine zB ?_ | refine zC ?_ | refine zD ?_ | refine zE ?_ | refine zF ?_ | refine zG rfl ?_ | refine zH ?_ | refine zI ?_ | refine zJ ?_ | refine zK ?_ | refine zL ?_ | refine zM ?_ | refine zN ?_ | refine zO ?_)
    have hA : ∀ x, x ∈ t.actions → 1 ≤ x ∧ x ≤ 3 := all_end hall (by omega)
    repeat (first | refine zT rfl rfl rfl rfl rfl rfl (cbin_inc (by omega)) ?_ | refine zY rfl rfl rfl rfl rfl rfl ?_ | refine zQ rfl rfl rfl ?_ | refine zR rfl rfl rfl rfl rfl (by first | assumption | exact cload_of (by assumption) rfl) ?_ | refine zS rfl rfl rfl rfl rfl rfl rfl rfl (by first | exact SlA.len (by assumption) rfl | exact Sl.map (by assumption) rfl | exact Sl.len (by assumption) rfl) ?_)
    refine pops.callG rfl rfl rfl rfl rfl fn_refnamed rfl rfl rfl (refnamed_calls hcl hlen) fun h2 hwf2 g2 => ?_
    replace hcl := Sl.gr hcl hwf' g2
    replace hac := Sl.gr hac hwf' g2
    replace hx := hx.gr hwf' g2
    replace hy := hy.gr hwf' g2
    replace hx' := hx'.gr hwf' g2
    replace hy' := hy'.gr hwf' g2
    replace hc := g2.at hwf' hc
    replace g2 := g1.trans g2
    cases hN : tt (NamesP t.classes) with
    | false =>
      repeat (first | refine zT rfl rfl rfl rfl rfl rfl (cbin_inc (by omega)) ?_ | refine zP rfl rfl rfl rfl rfl ?_ | refine zQ rfl rfl rfl ?_ | refine zR rfl rfl rfl rfl rfl (by first | assumption | exact cload_of (by assumption) rfl) ?_ | refine zS rfl rfl rfl rfl rfl rfl rfl rfl (by first | exact SlA.len (by assumption) rfl | exact Sl.map (by assumption) rfl | exact Sl.len (by assumption) rfl) ?_)
      refine pops.nil ?_
      repeat (first | refine zA ?_ | refine zB ?_ | refine zC ?_ | refine zD ?_ | refine zE ?_ | refine zF ?_ | refine zG rfl ?_ | refine zH ?_ | refine zI ?_ | refine zJ ?_ | refine zK ?_ | refine zL ?_ | refine zM ?_ | refine zN ?_ | refine zO ?_)
      refine pleave.r rfl ?_
      refine ⟨?_, g2⟩
      rw [tt_f]
      intro hV
      rw [tt_t hV.1] at hN
      cases hN
    | true =>
    repeat (first | refine zT rfl rfl rfl rfl rfl rfl (cbin_inc (by omega)) ?_ | refine zY rfl rfl rfl rfl rfl rfl ?_ | refine zQ rfl rfl rfl ?_ | refine zR rfl rfl rfl rfl rfl (by first | assumption | exact cload_of (by assumption) rfl) ?_ | refine zS rfl rfl rfl rfl rfl rfl rfl rfl (by first | exact SlA.len (by assumption) rfl | exact Sl.map (by assumption) rfl | exact Sl.len (by assumption) rfl) ?_)
    refine zZ rfl rfl rfl rfl rfl (fun q => ?_) (fun q => ?_)
    rotate_left
    · repeat (first | refine zT rfl rfl rfl rfl rfl rfl (cbin_inc (by omega)) ?_ | refine zP rfl rfl rfl rfl rfl ?_ | refine zQ rfl rfl rfl ?_ | refine zR rfl rfl rfl rfl rfl (by first | assumption | exact cload_of (by assumption) rfl) ?_ | refine zS rfl rfl rfl rfl rfl rfl rfl rfl (by first | exact SlA.len (by assumption) rfl | exact Sl.map (by assumption) rfl | exact Sl.len (by assumption) rfl) ?_)
      refine pops.nil ?_
      repeat (first | refine zA ?_ | refine zB ?_ | refine zC ?_ | refine zD ?_ | refine zE ?_ | refine zF ?_ | refine zG rfl ?_ | refine zH ?_ | refine zI ?_ | refine zJ ?_ | refine zK ?_ | refine zL ?_ | refine zM ?_ | refine zN ?_ | refine zO ?_)
      refine pleave.r rfl ?_
      refine ⟨?_, g2⟩
      rw [tt_f]
      intro hV
      have := hV.2.1
      simp at q
      omega
    simp at q
    repeat (first | refine zT rfl rfl rfl rfl rfl rfl (cbin_inc (by omega)) ?_ | refine zY rfl rfl rfl rfl rfl rfl ?_ | refine zQ rfl rfl rfl ?_ | refine zR rfl rfl rfl rfl rfl (by first | assumption | exact cload_of (by assumption) rfl) ?_ | refine zS rfl rfl rfl rfl rfl rfl rfl rfl (by first | exact SlA.len (by assumption) rfl | exact Sl.map (by assumption) rfl | exact Sl.len (by assumption) rfl) ?_)
    refine pops.callG rfl rfl rfl rfl rfl fn_sound rfl rfl rfl (sound_calls ⟨x, y, rfl, ho.1.1.1.2, ho.1.1.2, hx, hy⟩ t.classes.length t.actions.length lc) fun h4 hwf4 g4 => ?_
    replace hcl := Sl.gr hcl hwf2 g4
    replace hac := Sl.gr hac hwf2 g4
    replace hx := hx.gr hwf2 g4
    replace hy := hy.gr hwf2 g4
    replace hx' := hx'.gr hwf2 g4
    replace hy' := hy'.gr hwf2 g4
    replace hc := g4.at hwf2 hc
    replace g4 := g2.trans g4
    cases hS : tt (ShapeP t.left t.classes.length t.actions.length) with
    | false =>
      repeat (first | refine zT rfl rfl rfl rfl rfl rfl (cbin_inc (by omega)) ?_ | refine zP rfl rfl rfl rfl rfl ?_ | refine zQ rfl rfl rfl ?_ | refine zR rfl rfl rfl rfl rfl (by first | assumption | exact cload_of (by assumption) rfl) ?_ | refine zS rfl rfl rfl rfl rfl rfl rfl rfl (by first | exact SlA.len (by assumption) rfl | exact Sl.map (by assumption) rfl | exact Sl.len (by assumption) rfl) ?_)
      refine pops.nil ?_
      repeat (first | refine zA ?_ | refine zB ?_ | refine zC ?_ | refine zD ?_ | refine zE ?_ | refine zF ?_ | refine zG rfl ?_ | refine zH ?_ | refine zI ?_ | refine zJ ?_ | refine zK ?_ | refine zL ?_ | refine zM ?_ | refine zN ?_ | refine zO ?_)
      refine pleave.r rfl ?_
      refine ⟨?_, g4⟩
      rw [tt_f]
      intro hV
      rw [tt_t hV.2.2.2.1] at hS
      cases hS
    | true =>
    repeat (first | refine zT rfl rfl rfl rfl rfl rfl (cbin_inc (by omega)) ?_ | refine zY rfl rfl rfl rfl rfl rfl ?_ | refine zQ rfl rfl rfl ?_ | refine zR rfl rfl rfl rfl rfl (by first | assumption | exact cload_of (by assumption) rfl) ?_ | refine zS rfl rfl rfl rfl rfl rfl rfl rfl (by first | exact SlA.len (by assumption) rfl | exact Sl.map (by assumption) rfl | exact Sl.len (by assumption) rfl) ?_)
    refine pops.callG rfl rfl rfl rfl rfl fn_sound rfl rfl rfl (sound_calls ⟨x', y', rfl, ho.1.2, ho.2, hx', hy'⟩ t.classes.length t.actions.length lc) fun h5 hwf5 g5 => ?_
    repeat (first | refine zT rfl rfl rfl rfl rfl rfl (cbin_inc (by omega)) ?_ | refine zP rfl rfl rfl rfl rfl ?_ | refine zQ rfl rfl rfl ?_ | refine zR rfl rfl rfl rfl rfl (by first | assumption | exact cload_of (by assumption) rfl) ?_ | refine zS rfl rfl rfl rfl rfl rfl rfl rfl (by first | exact SlA.len (by assumption) rfl | exact Sl.map (by assumption) rfl | exact Sl.len (by assumption) rfl) ?_)
    refine pops.nil ?_
    repeat (first | refine zA ?_ | refine zB ?_ | refine zC ?_ | refine zD ?_ | refine zE ?_ | refine zF ?_ | refine zG rfl ?_ | refine zH ?_ | refine zI ?_ | refine zJ ?_ | refine zK ?_ | refine zL ?_ | refine zM ?_ | refine zN ?_ | refine zO ?_)
    refine pleave.r rfl ?_
    refine ⟨?_, g4.trans g5⟩
    cases hS' : tt (ShapeP t.right t.classes.length t.actions.length) with
    | false =>
      rw [tt_f]
      intro hV
      rw [tt_t hV.2.2.2.2] at hS'
      cases hS'
    | true => rw [tt_t (p := ValidP t) ⟨tt_iff.1 hN, by omega, hA, tt_iff.1 hS, tt_iff.1 hS'⟩]
end Go.Proofs.YtpcoponpfhnhlaaGreatDoor
set_option maxRecDepth 100000
set_option linter.unusedVariables false
set_option linter.unusedSimpArgs false
namespace Go.Proofs.YtpcoponpfhnhlaaGreatDoor
open Go.Cx
theorem alive_runs : closedTrue tab 1000 60 12 = true := by kernel_rfl
theorem alive_true (w : World) : Calls Tryz.prog 12 #[] w fun en w' => en = .returned (.bool true) ∧ Go.RowKit.Below w.heap.size w w' := closed_sound tab_ok alive_runs w
theorem fn_alive : tab.fn 12 = some Tryz.f12 := by kernel_rfl
theorem alive_calls {w : World} {h : CH} : CalF (X w) 12 [] h fun r h' => r = .ret (.bool true) ∧ Gr h h' :=
  (CalF.closed (X := X w) fun w => alive_true w).mono fun r h' hh => ⟨hh.1, hh.2 ▸ Gr.refl h⟩
end Go.Proofs.YtpcoponpfhnhlaaGreatDoor
set_option maxRecDepth 100000
set_option linter.unusedVariables false
set_option linter.unusedSimpArgs false
namespace Go.Proofs.YtpcoponpfhnhlaaGreatDoor
open Go.Cx
variable {w : World} {h : CH}
theorem fn_usable1 : tab.fn 68 = some Tryz.f68 := by kernel_rfl
theorem usable1_calls {c a x y x' y' : Value} {cl : List ByteArray} (z : Int) {b : Nat} (hc : h.get b = some (.cells [c, a, x, y, x', y'] false false)) (hcl : SlS tab ks.str h c cl) :
    CalF (X w) 68 [.int .i64 z, .pointer (some ⟨b, 0, none⟩)] h fun r h' => r = .ret (.bool (decide (z < 0) || decide ((cl.length : Int) ≤ z))) ∧ Gr h h' := by
  refine CalF.intro fn_usable1 rfl (Nat.le_of_ble_eq_true rfl) ?_
  repeat (first | refine zA ?_ | refine zB ?_ | refine zC ?_ | refine zD ?_ | refine zE ?_ | refine zF ?_ | refine zG rfl ?_ | refine zH ?_ | refine zI ?_ | refine zJ ?_ | refine zK ?_ | refine zL ?_ | refine zM ?_ | refine zN ?_ | refine zO ?_)
  repeat' (first | refine zT rfl rfl rfl rfl rfl rfl (cbin_inc (by omega)) ?_ | refine zZ rfl rfl rfl rfl rfl (fun _ => ?_) (fun _ => ?_) | refine zP rfl rfl rfl rfl rfl ?_ | refine zQ rfl rfl rfl ?_ | refine zR rfl rfl rfl rfl rfl (by first | assumption | exact cload_of (by assumption) rfl) ?_ | refine zS rfl rfl rfl rfl rfl rfl rfl rfl (by first | exact SlA.len (by assumption) rfl | exact Sl.map (by assumption) rfl | exact Sl.len (by assumption) rfl) ?_ | refine pops.nil ?_ | refine zA ?_ | refine zB ?_ | refine zC ?_ | refine zD ?_ | refine zE ?_ | refine zF ?_ | refine zG rfl ?_ | refine zH ?_ | refine zI ?_ | refine zJ ?_ | refine zK ?_ | refine zL ?_ | refine zM ?_ | refine zN ?_ | refine zO ?_ | refine pcond.t rfl ?_ | refine pcond.f rfl ?_ | refine pleave.r rfl ?_)
  all_goals (refine ⟨?_, Gr.refl h⟩)
  all_goals (congr 2; simp_all)
theorem fn_usable : tab.fn 45 = some Tryz.f45 := by kernel_rfl
theorem usable_calls {v vl : Value} {t : TabD} {l : List Int} (hv : TabV tab ks h v t) (hl : SlI tab ks.int h vl l) (hlen : TextsLt t.classes) : CalF (X w) 45 [v, vl] h fun r h' => r = .ret (.bool (tt (UsableP t l))) ∧ Gr h h' := by
  refine CalF.wf fun hwf => ?_
  have hV := hv
  obtain ⟨c, a, x, y, x', y', rfl, ho, hcl, hac, hx, hy, hx', hy'⟩ := hv
  simp only [Bool.and_eq_true] at ho
  refine CalF.intro fn_usable rfl (Nat.le_of_ble_eq_true rfl) ?_
  repeat (first | refine zA ?_ | refine zB ?_ | refine zC ?_ | refine zD ?_ | refine zE ?_ | refine zF ?_ | refine zG rfl ?_ | refine zH ?_ | refine zI ?_ | refine zJ ?_ | refine zK ?_ | refine zL ?_ | refine zM ?_ | refine zN ?_ | refine zO ?_)
  refine pops.box (cs := [c, a, x, y, x', y']) rfl rfl rfl rfl (by simp [ho]) rfl rfl hwf fun b h1 hb hwf1 g1 hc => ?_
  refine zP rfl rfl rfl rfl rfl ?_
  refine pops.nil ?_
  repeat (first | refine zA ?_ | refine zB ?_ | refine zC ?_ | refine zD ?_ | refine zE ?_ | refine zF ?_ | refine zG rfl ?_ | refine zH ?_ | refine zI ?_ | refine zJ ?_ | refine zK ?_ | refine zL ?_ | refine zM ?_ | refine zN ?_ | refine zO ?_)
  refine zR rfl rfl rfl rfl rfl (by first | assumption | exact cload_of (by assumption) rfl) ?_
  refine pops.callG rfl rfl rfl rfl rfl fn_valid rfl rfl rfl (valid_calls (hV.gr hwf g1) hlen) fun h2 hwf2 g2 => ?_
  have g02 := g1.trans g2
  replace hc := g2.at hwf1 hc
  cases hP : tt (ValidP t) with
  | false =>
    repeat (first | refine zT rfl rfl rfl rfl rfl rfl (cbin_inc (by omega)) ?_ | refine zP rfl rfl rfl rfl rfl ?_ | refine zQ rfl rfl rfl ?_ | refine zR rfl rfl rfl rfl rfl (by first | assumption | exact cload_of (by assumption) rfl) ?_ | refine zS rfl rfl rfl rfl rfl rfl rfl rfl (by first | exact SlA.len (by assumption) rfl | exact Sl.map (by assumption) rfl | exact Sl.len (by assumption) rfl) ?_)
    refine pops.nil ?_
    repeat (first | refine zA ?_ | refine zB ?_ | refine zC ?_ | refine zD ?_ | refine zE ?_ | refine zF ?_ | refine zG rfl ?_ | refine zH ?_ | refine zI ?_ | refine zJ ?_ | refine zK ?_ | refine zL ?_ | refine zM ?_ | refine zN ?_ | refine zO ?_)
    refine pleave.r rfl ?_
    refine ⟨?_, g02⟩
    rw [tt_f]
    intro hU
    rw [tt_t hU.1] at hP
    cases hP
  | true =>
    repeat (first | refine zT rfl rfl rfl rfl rfl rfl (cbin_inc (by omega)) ?_ | refine zP rfl rfl rfl rfl rfl ?_ | refine zQ rfl rfl rfl ?_ | refine zR rfl rfl rfl rfl rfl (by first | assumption | exact cload_of (by assumption) rfl) ?_ | refine zS rfl rfl rfl rfl rfl rfl rfl rfl (by first | exact SlA.len (by assumption) rfl | exact Sl.map (by assumption) rfl | exact Sl.len (by assumption) rfl) ?_)
    refine pops.callG rfl rfl rfl rfl rfl fn_containsFunc rfl rfl rfl (containsFunc_calls (p := fun z => decide (z < 0) || decide ((t.classes.length : Int) ≤ z)) (cap := #[.pointer (some ⟨b, 0, none⟩)]) fn_usable1 (Sl.gr hl hwf g02) fun z h4 _ hwf4 g4 => usable1_calls z (g4.at hwf2 hc) (Sl.gr hcl hwf (g02.trans g4))) fun h5 hwf5 g5 => ?_
    cases hany : l.any (fun z => decide (z < 0) || decide ((t.classes.length : Int) ≤ z)) with
    | true =>
      repeat (first | refine zT rfl rfl rfl rfl rfl rfl (cbin_inc (by omega)) ?_ | refine zP rfl rfl rfl rfl rfl ?_ | refine zQ rfl rfl rfl ?_ | refine zR rfl rfl rfl rfl rfl (by first | assumption | exact cload_of (by assumption) rfl) ?_ | refine zS rfl rfl rfl rfl rfl rfl rfl rfl (by first | exact SlA.len (by assumption) rfl | exact Sl.map (by assumption) rfl | exact Sl.len (by assumption) rfl) ?_)
      refine pops.nil ?_
      repeat (first | refine zA ?_ | refine zB ?_ | refine zC ?_ | refine zD ?_ | refine zE ?_ | refine zF ?_ | refine zG rfl ?_ | refine zH ?_ | refine zI ?_ | refine zJ ?_ | refine zK ?_ | refine zL ?_ | refine zM ?_ | refine zN ?_ | refine zO ?_)
      refine pleave.r rfl ?_
      refine ⟨?_, g02.trans g5⟩
      rw [tt_f]
      rfl
      intro hU
      obtain ⟨z, h6, h7⟩ := List.any_eq_true.1 hany
      have := hU.2 z h6
      simp at h7
      omega
    | false =>
      repeat (first | refine zT rfl rfl rfl rfl rfl rfl (cbin_inc (by omega)) ?_ | refine zP rfl rfl rfl rfl rfl ?_ | refine zQ rfl rfl rfl ?_ | refine zR rfl rfl rfl rfl rfl (by first | assumption | exact cload_of (by assumption) rfl) ?_ | refine zS rfl rfl rfl rfl rfl rfl rfl rfl (by first | exact SlA.len (by assumption) rfl | exact Sl.map (by assumption) rfl | exact Sl.len (by assumption) rfl) ?_)
      refine pops.nil ?_
      repeat (first | refine zA ?_ | refine zB ?_ | refine zC ?_ | refine zD ?_ | refine zE ?_ | refine zF ?_ | refine zG rfl ?_ | refine zH ?_ | refine zI ?_ | refine zJ ?_ | refine zK ?_ | refine zL ?_ | refine zM ?_ | refine zN ?_ | refine zO ?_)
      refine pleave.r rfl ?_
      refine ⟨?_, g02.trans g5⟩
      rw [tt_t (p := UsableP t l)]
      rfl
      refine ⟨tt_iff.1 hP, fun z hz => ?_⟩
      have := (List.any_eq_false.1 hany) z hz
      simp at this
      omega
theorem fn_left : tab.fn 47 = some Tryz.f47 := by kernel_rfl
theorem left_calls {v vl : Value} {t : TabD} {l : List Int} (hv : TabV tab ks h v t) (hl : SlI tab ks.int h vl l) (hU : UsableP t l) (hll : l.length ≤ 1000) : CalF (X w) 47 [v, vl] h fun r h' => (∃ u, r = .ret u ∧ SlI tab ks.int h' u (leftS t l)) ∧ Gr h h' := by
  refine CalF.wf fun hwf => ?_
  obtain ⟨c, a, x, y, x', y', rfl, ho, hcl, hac, hx, hy, hx', hy'⟩ := hv
  simp only [Bool.and_eq_true] at ho
  refine CalF.intro fn_left rfl (Nat.le_of_ble_eq_true rfl) ?_
  repeat (first | refine zA ?_ | refine zB ?_ | refine zC ?_ | refine zD ?_ | refine zE ?_ | refine zF ?_ | refine zG rfl ?_ | refine zH ?_ | refine zI ?_ | refine zJ ?_ | refine zK ?_ | refine zL ?_ | refine zM ?_ | refine zN ?_ | refine zO ?_)
  refine pops.box (cs := [c, a, x, y, x', y']) rfl rfl rfl rfl (by simp [ho]) rfl rfl hwf fun b h1 hb hwf1 g1 hc => ?_
  replace hx := hx.gr hwf g1
  replace hl := Sl.gr hl hwf g1
  refine zP rfl rfl rfl rfl rfl ?_
  refine pops.nil ?_
  repeat (first | refine zA ?_ | refine zB ?_ | refine zC ?_ | refine zD ?_ | refine zE ?_ | refine zF ?_ | refine zG rfl ?_ | refine zH ?_ | refine zI ?_ | refine zJ ?_ | refine zK ?_ | refine zL ?_ | refine zM ?_ | refine zN ?_ | refine zO ?_)
  refine pops.buildSlice (cs := [.int .i64 0]) rfl rfl rfl rfl rfl hwf1 fun b0 h2 hb0 hwf2 g2 hc0 => ?_
  refine zP rfl rfl rfl rfl rfl ?_
  refine pops.nil ?_
  repeat (first | refine zA ?_ | refine zB ?_ | refine zC ?_ | refine zD ?_ | refine zE ?_ | refine zF ?_ | refine zG rfl ?_ | refine zH ?_ | refine zI ?_ | refine zJ ?_ | refine zK ?_ | refine zL ?_ | refine zM ?_ | refine zN ?_ | refine zO ?_)
  refine zP rfl rfl rfl rfl rfl ?_
  refine zS rfl rfl rfl rfl rfl rfl rfl rfl (SlI.len (Sl.gr hl hwf1 g2) rfl) ?_
  refine zP rfl rfl rfl rfl rfl ?_
  refine pops.nil ?_
  repeat (first | refine zA ?_ | refine zB ?_ | refine zC ?_ | refine zD ?_ | refine zE ?_ | refine zF ?_ | refine zG rfl ?_ | refine zH ?_ | refine zI ?_ | refine zJ ?_ | refine zK ?_ | refine zL ?_ | refine zM ?_ | refine zN ?_ | refine zO ?_)
  refine Loops.ind 6 (fun s : Nat × Value => [(1, vl), (2, .pointer (some ⟨b, 0, none⟩)), (5, s.2), (9, vl), (10, .int .i64 (l.length : Nat)), (11, .int .i64 (s.1 : Nat))])
    (fun s h' => s.1 ≤ l.length ∧ Gr h1 h' ∧ ∃ b', h1.n ≤ b' ∧ Own h' s.2 b' ((List.range (s.1 + 1)).map fun i => Value.int .i64 (st t.left.next l i : Int)))
    (fun s => l.length - s.1) (0, .slice (some ⟨b0, 0, none⟩) 1 1) (by decide) ⟨rfl, rfl, rfl, rfl, rfl, rfl, trivial⟩ ⟨Nat.zero_le _, g2, b0, hb0, .inr ⟨1, rfl, hc0, .inl rfl⟩⟩ ?_
  clear hc0 g2 hwf2 hb0
  rintro ⟨i, vo⟩ z h' hwf' ⟨hi, g2, b', hb', hown⟩
  simp only at hi hown
  replace hc := g2.at hwf1 hc
  replace hx := hx.gr hwf1 g2
  replace hl := Sl.gr hl hwf1 g2
  have hownS : Sl tab ks.int h' vo ((List.range (i + 1)).map fun i => Value.int .i64 (st t.left.next l i : Int)) := hown.sl rfl rfl rfl (by simp; omega)
  repeat (first | refine zA ?_ | refine zB ?_ | refine zC ?_ | refine zD ?_ | refine zE ?_ | refine zF ?_ | refine zG rfl ?_ | refine zH ?_ | refine zI ?_ | refine zJ ?_ | refine zK ?_ | refine zL ?_ | refine zM ?_ | refine zN ?_ | refine zO ?_)
  repeat (first | refine zT rfl rfl rfl rfl rfl rfl (cbin_inc (by omega)) ?_ | refine zP rfl rfl rfl rfl rfl ?_ | refine zQ rfl rfl rfl ?_ | refine zR rfl rfl rfl rfl rfl (by first | assumption | exact cload_of (by assumption) rfl) ?_ | refine zS rfl rfl rfl rfl rfl rfl rfl rfl (by first | exact SlA.len (by assumption) rfl | exact Sl.map (by assumption) rfl | exact Sl.len (by assumption) rfl) ?_)
  refine pops.nil ?_
  repeat (first | refine zA ?_ | refine zB ?_ | refine zC ?_ | refine zD ?_ | refine zE ?_ | refine zF ?_ | refine zG rfl ?_ | refine zH ?_ | refine zI ?_ | refine zJ ?_ | refine zK ?_ | refine zL ?_ | refine zM ?_ | refine zN ?_ | refine zO ?_)
  refine pcond.d (p := (i : Int) < (l.length : Nat)) rfl (fun hlt => ?_) (fun hge => ?_)
  · have hlt : i < l.length := by omega
    obtain ⟨cc, hcc⟩ : ∃ c, l[i]? = some c := ⟨_, List.getElem?_eq_getElem hlt⟩
    have hcr := hU.2 cc (List.mem_of_getElem? hcc)
    obtain ⟨k, rfl⟩ : ∃ k : Nat, cc = k := Int.eq_ofNat_of_zero_le hcr.1
    have hkc : k < t.classes.length := by omega
    have hS := hU.1.2.2.2.1
    obtain ⟨h5, row, h6, h7⟩ := stepTo_ok hS (st_ok hS hU.2 i hi) hkc
    have hst : st t.left.next l (i + 1) = stepTo t.left.next (st t.left.next l i) k := by
      show stepTo _ _ (l.getD i 0).toNat = _
      rw [List.getD_eq_getElem?_getD, hcc]
      rfl
    obtain ⟨p1, hp1, hq1⟩ := hownS.readG hwf' (ts := 26) rfl (i := i) (x := .int .i64 (st t.left.next l i : Int)) (by rw [List.getElem?_map, List.getElem?_range (by omega)]; rfl) .i64
    obtain ⟨p2, u2, hp2, hu2, hq2⟩ := SlA.readG hx hwf' (ts := 27) rfl h6 .i64
    obtain ⟨p3, hp3, hq3⟩ := Sl.readM hu2 hwf' (ts := 26) rfl h7 .i64
    repeat (first | refine zA ?_ | refine zB ?_ | refine zC ?_ | refine zD ?_ | refine zE ?_ | refine zF ?_ | refine zG rfl ?_ | refine zH ?_ | refine zI ?_ | refine zJ ?_ | refine zK ?_ | refine zL ?_ | refine zM ?_ | refine zN ?_ | refine zO ?_)
    refine zP rfl rfl rfl rfl rfl ?_
    refine pops.atI (f := Value.int .i64) rfl rfl rfl rfl rfl rfl rfl hl hcc fun p hp => ?_
    repeat (first | refine zT rfl rfl rfl rfl rfl rfl (cbin_inc (by omega)) ?_ | refine zP rfl rfl rfl rfl rfl ?_ | refine zQ rfl rfl rfl ?_ | refine zR rfl rfl rfl rfl rfl (by first | assumption | exact cload_of (by assumption) rfl) ?_ | refine zS rfl rfl rfl rfl rfl rfl rfl rfl (by first | exact SlA.len (by assumption) rfl | exact Sl.map (by assumption) rfl | exact Sl.len (by assumption) rfl) ?_)
    refine pops.nil ?_
    repeat (first | refine zA ?_ | refine zB ?_ | refine zC ?_ | refine zD ?_ | refine zE ?_ | refine zF ?_ | refine zG rfl ?_ | refine zH ?_ | refine zI ?_ | refine zJ ?_ | refine zK ?_ | refine zL ?_ | refine zM ?_ | refine zN ?_ | refine zO ?_)
    refine PG.start _ rfl rfl ?_
    refine zV (by decide +kernel) rfl rfl rfl rfl ?_
    refine zV (by decide +kernel) rfl rfl rfl rfl ?_
    refine zV (by decide +kernel) rfl rfl rfl rfl ?_
    refine zW (by decide +kernel) rfl rfl rfl rfl rfl (by first | assumption | exact cload_of (by assumption) rfl) ?_
    refine zV (by decide +kernel) rfl rfl rfl rfl ?_
    refine zV (by decide +kernel) rfl rfl rfl rfl ?_
    refine zV (by decide +kernel) rfl rfl rfl (hp1) ?_
    refine zV (by decide +kernel) rfl rfl rfl (hq1 _ (Gr.refl _)) ?_
    refine zV (by decide +kernel) rfl rfl rfl (hp2) ?_
    refine zV (by decide +kernel) rfl rfl rfl (hq2 _ (Gr.refl _)) ?_
    refine zV (by decide +kernel) rfl rfl rfl rfl ?_
    refine zV (by decide +kernel) rfl rfl rfl (hp3) ?_
    refine zV (by decide +kernel) rfl rfl rfl (hq3 _ (Gr.refl _)) ?_
    repeat refine zU (by decide +kernel) ?_
    refine PG.nil ?_
    refine pd1.buildSlice (cs := [.int .i64 (stepTo t.left.next (st t.left.next l i) k : Int)]) 13 rfl (by kernel_rfl) rfl rfl rfl rfl rfl hwf' fun b1 h3 hb1 hwf3 g3 hc3 => ?_
    refine ⟨_, by (repeat (first | exact Reck.nil | (apply Reck.dropI; decide +kernel) | (apply Reck.keep; rfl) | (apply Reck.load; rfl; rfl; first | assumption | exact cload_of (by assumption) rfl) | (apply Reck.same; rfl) | (apply Reck.inc; rfl; rfl; rfl; omega))), ?_⟩
    repeat (first | refine zU (by decide +kernel) ?_ | refine zV (by decide +kernel) rfl rfl rfl rfl ?_ | refine zW (by decide +kernel) rfl rfl rfl rfl rfl (by first | assumption | exact cload_of (by assumption) rfl) ?_ | refine zX (by decide +kernel) rfl rfl rfl ?_)
    refine PG.nil ?_
    refine pd1.append1 14 rfl (by kernel_rfl) rfl rfl rfl rfl rfl rfl rfl rfl rfl rfl rfl rfl rfl rfl rfl rfl rfl hwf3 (hown.gr hwf' g3) rfl hc3 (by simp; omega) fun v' b2 h4 hwf4 ch hb2 hown4 => ?_
    refine ⟨_, by (repeat (first | exact Reck.nil | (apply Reck.dropI; decide +kernel) | (apply Reck.keep; rfl) | (apply Reck.load; rfl; rfl; first | assumption | exact cload_of (by assumption) rfl) | (apply Reck.same; rfl) | (apply Reck.inc; rfl; rfl; rfl; omega))), ?_⟩
    repeat (first | refine zU (by decide +kernel) ?_ | refine zV (by decide +kernel) rfl rfl rfl rfl ?_ | refine zW (by decide +kernel) rfl rfl rfl rfl rfl (by first | assumption | exact cload_of (by assumption) rfl) ?_ | refine zX (by decide +kernel) rfl rfl rfl ?_)
    refine PG.nil ?_
    refine pd1.fin (by kernel_rfl) (by kernel_rfl) ?_
    repeat (first | refine zA ?_ | refine zB ?_ | refine zC ?_ | refine zD ?_ | refine zE ?_ | refine zF ?_ | refine zG rfl ?_ | refine zH ?_ | refine zI ?_ | refine zJ ?_ | refine zK ?_ | refine zL ?_ | refine zM ?_ | refine zN ?_ | refine zO ?_)
    repeat (first | refine zT rfl rfl rfl rfl rfl rfl (cbin_inc (by omega)) ?_ | refine zP rfl rfl rfl rfl rfl ?_ | refine zQ rfl rfl rfl ?_ | refine zR rfl rfl rfl rfl rfl (by first | assumption | exact cload_of (by assumption) rfl) ?_ | refine zS rfl rfl rfl rfl rfl rfl rfl rfl (by first | exact SlA.len (by assumption) rfl | exact Sl.map (by assumption) rfl | exact Sl.len (by assumption) rfl) ?_)
    refine pops.nil ?_
    refine .n ⟨_, (i + 1, v'), rfl, ⟨rfl, rfl, rfl, rfl, rfl, rfl, trivial⟩, (by show l.length - (i + 1) < l.length - i; omega), (by show i + 1 ≤ l.length; omega), (g2.trans g3).chg hb' ch, b2, Nat.le_trans g2.n (Nat.le_trans g3.n hb2), ?_⟩
    show Own h4 v' b2 ((List.range (i + 1 + 1)).map _)
    rw [List.range_succ, List.map_append]
    rw [← hst] at hown4
    exact hown4
  · repeat (first | refine zA ?_ | refine zB ?_ | refine zC ?_ | refine zD ?_ | refine zE ?_ | refine zF ?_ | refine zG rfl ?_ | refine zH ?_ | refine zI ?_ | refine zJ ?_ | refine zK ?_ | refine zL ?_ | refine zM ?_ | refine zN ?_ | refine zO ?_)
    have hi' : i = l.length := by omega
    subst hi'
    repeat (first | refine zT rfl rfl rfl rfl rfl rfl (cbin_inc (by omega)) ?_ | refine zP rfl rfl rfl rfl rfl ?_ | refine zQ rfl rfl rfl ?_ | refine zR rfl rfl rfl rfl rfl (by first | assumption | exact cload_of (by assumption) rfl) ?_ | refine zS rfl rfl rfl rfl rfl rfl rfl rfl (by first | exact SlA.len (by assumption) rfl | exact Sl.map (by assumption) rfl | exact Sl.len (by assumption) rfl) ?_)
    refine pops.nil ?_
    repeat (first | refine zA ?_ | refine zB ?_ | refine zC ?_ | refine zD ?_ | refine zE ?_ | refine zF ?_ | refine zG rfl ?_ | refine zH ?_ | refine zI ?_ | refine zJ ?_ | refine zK ?_ | refine zL ?_ | refine zM ?_ | refine zN ?_ | refine zO ?_)
    refine pleave.r rfl ?_
    refine ⟨⟨vo, rfl, ?_⟩, g1.trans g2⟩
    unfold leftS
    show Sl _ _ _ _ (List.map _ (List.map _ _))
    rw [List.map_map]
    exact hownS
end Go.Proofs.YtpcoponpfhnhlaaGreatDoor
set_option maxRecDepth 100000
set_option linter.unusedVariables false
set_option linter.unusedSimpArgs false
namespace Go.Proofs.YtpcoponpfhnhlaaGreatDoor
open Go.Cx
variable {w : World} {h : CH}
theorem fn_backward : tab.fn 70 = some Tryz.f70 := by kernel_rfl
theorem backward_calls {v : Value} {l : List Int} (hl : SlI tab ks.int h v l) : CalF (X w) 70 [v] h fun r h' => (∃ b, r = .ret (.func (.func 89) #[] #[.pointer (some ⟨b, 0, none⟩)]) ∧ h.n ≤ b ∧ h'.get b = some (.cells [v] false false)) ∧ Gr h h' := by
  refine CalF.wf fun hwf => ?_
  obtain ⟨a, c, rfl⟩ := Sl.formM hl
  refine CalF.intro fn_backward rfl (Nat.le_of_ble_eq_true rfl) ?_
  repeat (first | refine zA ?_ | refine zB ?_ | refine zC ?_ | refine zD ?_ | refine zE ?_ | refine zF ?_ | refine zG rfl ?_ | refine zH ?_ | refine zI ?_ | refine zJ ?_ | refine zK ?_ | refine zL ?_ | refine zM ?_ | refine zN ?_ | refine zO ?_)
  refine pops.box (cs := [.slice a l.length c]) rfl rfl rfl rfl rfl rfl rfl hwf fun b h1 hb hwf1 g1 hc => ?_
  repeat (first | refine zT rfl rfl rfl rfl rfl rfl (cbin_inc (by omega)) ?_ | refine zP rfl rfl rfl rfl rfl ?_ | refine zQ rfl rfl rfl ?_ | refine zR rfl rfl rfl rfl rfl (by first | assumption | exact cload_of (by assumption) rfl) ?_ | refine zS rfl rfl rfl rfl rfl rfl rfl rfl (by first | exact SlA.len (by assumption) rfl | exact Sl.map (by assumption) rfl | exact Sl.len (by assumption) rfl) ?_)
  refine pops.nil ?_
  repeat (first | refine zA ?_ | refine zB ?_ | refine zC ?_ | refine zD ?_ | refine zE ?_ | refine zF ?_ | refine zG rfl ?_ | refine zH ?_ | refine zI ?_ | refine zJ ?_ | refine zK ?_ | refine zL ?_ | refine zM ?_ | refine zN ?_ | refine zO ?_)
  repeat (first | refine zT rfl rfl rfl rfl rfl rfl (cbin_inc (by omega)) ?_ | refine zP rfl rfl rfl rfl rfl ?_ | refine zQ rfl rfl rfl ?_ | refine zR rfl rfl rfl rfl rfl (by first | assumption | exact cload_of (by assumption) rfl) ?_ | refine zS rfl rfl rfl rfl rfl rfl rfl rfl (by first | exact SlA.len (by assumption) rfl | exact Sl.map (by assumption) rfl | exact Sl.len (by assumption) rfl) ?_)
  refine pops.nil ?_
  repeat (first | refine zA ?_ | refine zB ?_ | refine zC ?_ | refine zD ?_ | refine zE ?_ | refine zF ?_ | refine zG rfl ?_ | refine zH ?_ | refine zI ?_ | refine zJ ?_ | refine zK ?_ | refine zL ?_ | refine zM ?_ | refine zN ?_ | refine zO ?_)
  refine pleave.r rfl ?_
  exact ⟨⟨b, rfl, hb, hc⟩, g1⟩
theorem fn_backward1 : tab.fn 89 = some Tryz.f89 := by kernel_rfl
theorem cbin_dec1 {T : Tab} {h : CH} {t : TypeId} {xo yo : Operand} {i : Nat} (hi : i < 9223372036854775808) : cbin T h .sub t xo yo (.int .i64 (i : Int)) (.int .i64 1) = some (.int .i64 ((i : Int) - 1)) := by
  show some (Value.int .i64 (IntKind.wrap .i64 ((i : Int) - 1))) = _
  rw [IntKind.wrap_i64]
  congr 2
  omega
theorem backward1_calls {v : Value} {l : List Int} {b yl : Nat} (J : Nat → CH → Prop) (hJ : ∀ m h, h.wf → J m h → h.get b = some (.cells [v] false false) ∧ SlI tab ks.int h v l) (hll : l.length < 9223372036854775808)
    (hr : ∀ j x h, h.wf → J (j + 1) h → l[j]? = some x → ∃ r : Loop, h.get yl = some (.loop r) ∧ 2 = r.params.toList.length ∧ Rnd (X w) yl r.fn r.tmps.toList.length (setArgs r.tmps.toList.length (argsTree r.tmps.toList 0 .nil) (r.params.toList.zip [.int .i64 (j : Int), .int .i64 x])) r.assign r.body h fun u h' => u = .bool true ∧ J j h')
    (h0 : J l.length h) : CalF (X w) 89 [.func (.yield yl) #[] #[], .pointer (some ⟨b, 0, none⟩)] h fun r h' => (∃ u, r = .ret u) ∧ J 0 h' ∧ h'.wf := by
  refine CalF.wf fun hwf => ?_
  obtain ⟨hb, hl⟩ := hJ _ _ hwf h0
  refine CalF.intro fn_backward1 rfl (Nat.le_of_ble_eq_true rfl) ?_
  repeat (first | refine zA ?_ | refine zB ?_ | refine zC ?_ | refine zD ?_ | refine zE ?_ | refine zF ?_ | refine zG rfl ?_ | refine zH ?_ | refine zI ?_ | refine zJ ?_ | refine zK ?_ | refine zL ?_ | refine zM ?_ | refine zN ?_ | refine zO ?_)
  refine zR rfl rfl rfl rfl rfl (by first | assumption | exact cload_of (by assumption) rfl) ?_
  refine zS rfl rfl rfl rfl rfl rfl rfl rfl (by first | exact SlA.len (by assumption) rfl | exact Sl.map (by assumption) rfl | exact Sl.len (by assumption) rfl) ?_
  refine zT rfl rfl rfl rfl rfl rfl (cbin_dec1 hll) ?_
  refine zP rfl rfl rfl rfl rfl ?_
  refine pops.nil ?_
  repeat (first | refine zA ?_ | refine zB ?_ | refine zC ?_ | refine zD ?_ | refine zE ?_ | refine zF ?_ | refine zG rfl ?_ | refine zH ?_ | refine zI ?_ | refine zJ ?_ | refine zK ?_ | refine zL ?_ | refine zM ?_ | refine zN ?_ | refine zO ?_)
  refine Loops.ind 5 (fun m : Nat => [(0, .func (.yield yl) #[] #[]), (1, .pointer (some ⟨b, 0, none⟩)), (3, .int .i64 ((m : Int) - 1))]) (fun m h' => m ≤ l.length ∧ J m h') (fun m => m) l.length (by decide) ⟨rfl, rfl, rfl, trivial⟩ ⟨Nat.le_refl _, h0⟩ ?_
  clear h0 hl hb hwf
  rintro m z h' hwf' ⟨hm, hj⟩
  obtain ⟨hb, hl⟩ := hJ _ _ hwf' hj
  repeat (first | refine zA ?_ | refine zB ?_ | refine zC ?_ | refine zD ?_ | refine zE ?_ | refine zF ?_ | refine zG rfl ?_ | refine zH ?_ | refine zI ?_ | refine zJ ?_ | refine zK ?_ | refine zL ?_ | refine zM ?_ | refine zN ?_ | refine zO ?_)
  repeat (first | refine zT rfl rfl rfl rfl rfl rfl (cbin_inc (by omega)) ?_ | refine zP rfl rfl rfl rfl rfl ?_ | refine zQ rfl rfl rfl ?_ | refine zR rfl rfl rfl rfl rfl (by first | assumption | exact cload_of (by assumption) rfl) ?_ | refine zS rfl rfl rfl rfl rfl rfl rfl rfl (by first | exact SlA.len (by assumption) rfl | exact Sl.map (by assumption) rfl | exact Sl.len (by assumption) rfl) ?_)
  refine pops.nil ?_
  repeat (first | refine zA ?_ | refine zB ?_ | refine zC ?_ | refine zD ?_ | refine zE ?_ | refine zF ?_ | refine zG rfl ?_ | refine zH ?_ | refine zI ?_ | refine zJ ?_ | refine zK ?_ | refine zL ?_ | refine zM ?_ | refine zN ?_ | refine zO ?_)
  refine pcond.d (p := (0 : Int) ≤ (m : Int) - 1) rfl (fun hlt => ?_) (fun hge => ?_)
  · obtain ⟨j, rfl⟩ : ∃ j, m = j + 1 := ⟨m - 1, by omega⟩
    have e : (((j + 1 : Nat) : Int) - 1) = (j : Int) := by omega
    rw [e]
    obtain ⟨x, hx⟩ : ∃ x, l[j]? = some x := ⟨_, List.getElem?_eq_getElem (by omega)⟩
    obtain ⟨r, hr1, hr2, hr3⟩ := hr j x h' hwf' hj hx
    repeat (first | refine zA ?_ | refine zB ?_ | refine zC ?_ | refine zD ?_ | refine zE ?_ | refine zF ?_ | refine zG rfl ?_ | refine zH ?_ | refine zI ?_ | refine zJ ?_ | refine zK ?_ | refine zL ?_ | refine zM ?_ | refine zN ?_ | refine zO ?_)
    repeat (first | refine zT rfl rfl rfl rfl rfl rfl (cbin_inc (by omega)) ?_ | refine zY rfl rfl rfl rfl rfl rfl ?_ | refine zQ rfl rfl rfl ?_ | refine zR rfl rfl rfl rfl rfl (by first | assumption | exact cload_of (by assumption) rfl) ?_ | refine zS rfl rfl rfl rfl rfl rfl rfl rfl (by first | exact SlA.len (by assumption) rfl | exact Sl.map (by assumption) rfl | exact Sl.len (by assumption) rfl) ?_)
    refine pops.atI (f := Value.int .i64) rfl rfl rfl rfl rfl rfl rfl hl hx fun p hp => ?_
    refine zR rfl rfl rfl rfl rfl (by first | assumption | exact cload_of (by assumption) rfl) ?_
    refine pops.yield rfl rfl rfl rfl rfl rfl rfl hr1 hr2 (hr3.monoW fun u h2 hwf2 hh => ?_)
    obtain ⟨rfl, hj2⟩ := hh
    repeat (first | refine zT rfl rfl rfl rfl rfl rfl (cbin_inc (by omega)) ?_ | refine zP rfl rfl rfl rfl rfl ?_ | refine zQ rfl rfl rfl ?_ | refine zR rfl rfl rfl rfl rfl (by first | assumption | exact cload_of (by assumption) rfl) ?_ | refine zS rfl rfl rfl rfl rfl rfl rfl rfl (by first | exact SlA.len (by assumption) rfl | exact Sl.map (by assumption) rfl | exact Sl.len (by assumption) rfl) ?_)
    refine pops.nil ?_
    repeat (first | refine zA ?_ | refine zB ?_ | refine zC ?_ | refine zD ?_ | refine zE ?_ | refine zF ?_ | refine zG rfl ?_ | refine zH ?_ | refine zI ?_ | refine zJ ?_ | refine zK ?_ | refine zL ?_ | refine zM ?_ | refine zN ?_ | refine zO ?_)
    refine pcond.f rfl ?_
    repeat (first | refine zA ?_ | refine zB ?_ | refine zC ?_ | refine zD ?_ | refine zE ?_ | refine zF ?_ | refine zG rfl ?_ | refine zH ?_ | refine zI ?_ | refine zJ ?_ | refine zK ?_ | refine zL ?_ | refine zM ?_ | refine zN ?_ | refine zO ?_)
    refine zP rfl rfl rfl rfl rfl ?_
    refine zT rfl rfl rfl rfl rfl rfl (cbin_dec1 (by omega)) ?_
    refine zP rfl rfl rfl rfl rfl ?_
    refine pops.nil ?_
    exact .n ⟨_, j, rfl, ⟨rfl, rfl, rfl, trivial⟩, Nat.lt_succ_self j, by omega, hj2⟩
  · have : m = 0 := by omega
    subst this
    repeat (first | refine zA ?_ | refine zB ?_ | refine zC ?_ | refine zD ?_ | refine zE ?_ | refine zF ?_ | refine zG rfl ?_ | refine zH ?_ | refine zI ?_ | refine zJ ?_ | refine zK ?_ | refine zL ?_ | refine zM ?_ | refine zN ?_ | refine zO ?_)
    refine pleave.n rfl ?_
    exact ⟨⟨_, rfl⟩, hj, hwf'⟩
end Go.Proofs.YtpcoponpfhnhlaaGreatDoor
set_option maxRecDepth 100000
set_option linter.unusedVariables false
set_option linter.unusedSimpArgs false
namespace Go.Proofs.YtpcoponpfhnhlaaGreatDoor
open Go.Cx
variable {w : World} {h : CH}
theorem fn_right : tab.fn 48 = some Tryz.f48 := by kernel_rfl
theorem right_calls {v vl : Value} {t : TabD} {l : List Int} (hv : TabV tab ks h v t) (hl : SlI tab ks.int h vl l) (hU : UsableP t l) (hll : l.length ≤ 1000) : CalF (X w) 48 [v, vl] h fun r h' => (∃ u, r = .ret u ∧ SlI tab ks.int h' u (rightS t l)) ∧ Gr h h' := by
  refine CalF.wf fun hwf => ?_
  obtain ⟨c, a, x, y, x', y', rfl, ho, hcl, hac, hx, hy, hx', hy'⟩ := hv
  simp only [Bool.and_eq_true] at ho
  refine CalF.intro fn_right rfl (Nat.le_of_ble_eq_true rfl) ?_
  repeat (first | refine zA ?_ | refine zB ?_ | refine zC ?_ | refine zD ?_ | refine zE ?_ | refine zF ?_ | refine zG rfl ?_ | refine zH ?_ | refine zI ?_ | refine zJ ?_ | refine zK ?_ | refine zL ?_ | refine zM ?_ | refine zN ?_ | refine zO ?_)
  refine pops.box (cs := [c, a, x, y, x', y']) rfl rfl rfl rfl (by simp [ho]) rfl rfl hwf fun b h1 hb hwf1 g1 hc => ?_
  replace hx' := hx'.gr hwf g1
  replace hl := Sl.gr hl hwf g1
  refine zP rfl rfl rfl rfl rfl ?_
  refine pops.nil ?_
  repeat (first | refine zA ?_ | refine zB ?_ | refine zC ?_ | refine zD ?_ | refine zE ?_ | refine zF ?_ | refine zG rfl ?_ | refine zH ?_ | refine zI ?_ | refine zJ ?_ | refine zK ?_ | refine zL ?_ | refine zM ?_ | refine zN ?_ | refine zO ?_)
  repeat (first | refine zT rfl rfl rfl rfl rfl rfl (cbin_inc (by omega)) ?_ | refine zP rfl rfl rfl rfl rfl ?_ | refine zQ rfl rfl rfl ?_ | refine zR rfl rfl rfl rfl rfl (by first | assumption | exact cload_of (by assumption) rfl) ?_ | refine zS rfl rfl rfl rfl rfl rfl rfl rfl (by first | exact SlA.len (by assumption) rfl | exact Sl.map (by assumption) rfl | exact Sl.len (by assumption) rfl) ?_)
  refine pops.makeSlice (z := .int .i64 0) (m := l.length + 1) rfl rfl rfl rfl rfl rfl rfl rfl rfl rfl rfl (by omega) hwf1 fun bs h2 hbs hwf2 g2 hcs => ?_
  refine pops.alloc rfl rfl rfl rfl rfl hwf2 fun bo h3 hbo hwf3 g3 hco => ?_
  refine pops.store (cs' := [.slice (some ⟨bs, 0, none⟩) (l.length + 1) (l.length + 1)]) rfl rfl rfl rfl rfl hco rfl rfl rfl rfl hwf3 fun h4 hwf4 u4 hco4 => ?_
  have hbs2 := CH.lt hwf2 hcs
  have g24 := g3.upd hbo u4
  have hcs4 := g24.at hwf2 hcs
  have g14 := g2.trans g24
  clear hco u4 g3 hwf3 h3
  refine pops.nil ?_
  repeat (first | refine zA ?_ | refine zB ?_ | refine zC ?_ | refine zD ?_ | refine zE ?_ | refine zF ?_ | refine zG rfl ?_ | refine zH ?_ | refine zI ?_ | refine zJ ?_ | refine zK ?_ | refine zL ?_ | refine zM ?_ | refine zN ?_ | refine zO ?_)
  repeat (first | refine zT rfl rfl rfl rfl rfl rfl (cbin_inc (by omega)) ?_ | refine zP rfl rfl rfl rfl rfl ?_ | refine zQ rfl rfl rfl ?_ | refine zR rfl rfl rfl rfl rfl (by first | assumption | exact cload_of (by assumption) rfl) ?_ | refine zS rfl rfl rfl rfl rfl rfl rfl rfl (by first | exact SlA.len (by assumption) rfl | exact Sl.map (by assumption) rfl | exact Sl.len (by assumption) rfl) ?_)
  refine pops.callV rfl rfl rfl rfl rfl fn_backward rfl rfl ((backward_calls (Sl.gr hl hwf1 g14)).monoW fun r h5 hwf5 hh => ?_)
  obtain ⟨⟨bb, rfl, hbb, hcb⟩, g5⟩ := hh
  have hbo4 := CH.lt hwf4 hco4
  have hbb5 := CH.lt hwf5 hcb
  refine ⟨_, rfl, ?_⟩
  refine pops.nil ?_
  repeat (first | refine zA ?_ | refine zB ?_ | refine zC ?_ | refine zD ?_ | refine zE ?_ | refine zF ?_ | refine zG rfl ?_ | refine zH ?_ | refine zI ?_ | refine zJ ?_ | refine zK ?_ | refine zL ?_ | refine zM ?_ | refine zN ?_ | refine zO ?_)
  refine Runs.retab 6 [(1, vl), (2, .pointer (some ⟨b, 0, none⟩)), (5, .pointer (some ⟨bo, 0, none⟩)), (13, .func (.func 89) #[] #[.pointer (some ⟨bb, 0, none⟩)])] (by decide) ⟨rfl, rfl, rfl, rfl, trivial⟩ fun z => ?_
  refine Runs.rangeFuncG rfl fn_backward1 rfl fun r0 hx6 hr0 hhx => ?_
  have hj0 : RJ h1 bs bo bb h5.n (h5.n + 1) r0 vl (l.length + 1) (rowM (rst t.right.next l) l.length l.length) hx6 := by
    rw [hhx]
    have hp : ∀ c, c < h5.n → ((h5.push (.deferred true)).push (.loop r0)).get c = h5.get c := fun c hc => by
      rw [CH.get_push, CH.n_push, if_neg (by omega), CH.get_push, if_neg (by omega)]
    refine ⟨((g14.trans g5).trans (Gr.push _ _)).trans (Gr.push _ _), ?_, ?_, ?_, ?_, ?_⟩
    · rw [hp _ (by have := g5.n; have := g24.n; omega), rowM_init _ _ rfl]; exact g5.at hwf4 hcs4
    · rw [hp _ (by have := g5.n; omega)]; exact g5.at hwf4 hco4
    · rw [hp _ (by omega)]; exact hcb
    · rw [CH.get_push, CH.n_push, if_neg (by omega), CH.get_push, if_pos rfl]
    · rw [CH.get_push, CH.n_push, if_pos rfl]
  have o1 := hbs
  have o2 : bs < bo := by omega
  have o3 : bo < bb := by omega
  refine (backward1_calls (l := l) (b := bb) (yl := h5.n + 1) (fun m hh => m ≤ l.length ∧ RJ h1 bs bo bb h5.n (h5.n + 1) r0 vl (l.length + 1) (rowM (rst t.right.next l) l.length m) hh) (fun m hh hwfh hJ => ⟨hJ.2.hbb, Sl.gr hl hwf1 hJ.2.g⟩) (by omega) ?_ ⟨Nat.le_refl _, hj0⟩).mono ?_
  · clear hj0 hhx
    rintro j xx hh hwfh ⟨hjl, hj⟩ hxx
    subst hr0
    refine ⟨_, hj.hlid, rfl, ?_⟩
    refine Rnd.intro ?_
    refine Runs.retab 6 [(2, .pointer (some ⟨b, 0, none⟩)), (5, .pointer (some ⟨bo, 0, none⟩)), (14, .int .i64 (j : Int)), (15, .int .i64 xx)] (Nat.le_of_ble_eq_true (by kernel_rfl)) ⟨by kernel_rfl, by kernel_rfl, by kernel_rfl, by kernel_rfl, trivial⟩ fun z2 => ?_
    repeat (first | refine zA ?_ | refine zB ?_ | refine zC ?_ | refine zD ?_ | refine zE ?_ | refine zF ?_ | refine zG rfl ?_ | refine zH ?_ | refine zI ?_ | refine zJ ?_ | refine zK ?_ | refine zL ?_ | refine zM ?_ | refine zN ?_ | refine zO ?_)
    repeat (first | refine zT rfl rfl rfl rfl rfl rfl (cbin_inc (by omega)) ?_ | refine zP rfl rfl rfl rfl rfl ?_ | refine zQ rfl rfl rfl ?_ | refine zR rfl rfl rfl rfl rfl (by first | assumption | exact cload_of (by assumption) rfl) ?_ | refine zS rfl rfl rfl rfl rfl rfl rfl rfl (by first | exact SlA.len (by assumption) rfl | exact Sl.map (by assumption) rfl | exact Sl.len (by assumption) rfl) ?_)
    refine pops.nil ?_
    repeat (first | refine zA ?_ | refine zB ?_ | refine zC ?_ | refine zD ?_ | refine zE ?_ | refine zF ?_ | refine zG rfl ?_ | refine zH ?_ | refine zI ?_ | refine zJ ?_ | refine zK ?_ | refine zL ?_ | refine zM ?_ | refine zN ?_ | refine zO ?_)
    repeat (first | refine zT rfl rfl rfl rfl rfl rfl (cbin_inc (by omega)) ?_ | refine zP rfl rfl rfl rfl rfl ?_ | refine zQ rfl rfl rfl ?_ | refine zR rfl rfl rfl rfl rfl (by first | assumption | exact cload_of (by assumption) rfl) ?_ | refine zS rfl rfl rfl rfl rfl rfl rfl rfl (by first | exact SlA.len (by assumption) rfl | exact Sl.map (by assumption) rfl | exact Sl.len (by assumption) rfl) ?_)
    refine pops.nil ?_
    refine ⟨rfl, _, hj.hlid, rfl, ?_⟩
    generalize hhp : CH.put hh (h5.n + 1) _ = hp
    have hwfp : hp.wf := by rw [← hhp]; exact CH.wf_put hwfh hj.hlid
    have gp : Gr h1 hp := by rw [← hhp]; exact hj.g.put (by omega) _
    have kp : ∀ c, c ≠ h5.n + 1 → hp.get c = hh.get c := fun c hc => by rw [← hhp]; exact CH.put_get hc
    have hbsp := (kp bs (by omega)).trans hj.hbs
    have hbop := (kp bo (by omega)).trans hj.hbo
    have hcp := gp.at hwf1 hc
    have hxp := hx'.gr hwf1 gp
    have hcr := hU.2 xx (List.mem_of_getElem? hxx)
    obtain ⟨k, rfl⟩ : ∃ k : Nat, xx = k := Int.eq_ofNat_of_zero_le hcr.1
    have hkc : k < t.classes.length := by omega
    have hS := hU.1.2.2.2.2
    obtain ⟨h6, row, h7, h8⟩ := stepTo_ok hS (rst_ok hS hU.2 (l.length - (j + 1)) (by omega)) hkc
    have hst : rst t.right.next l (l.length - j) = stepTo t.right.next (rst t.right.next l (l.length - (j + 1))) k := by
      rw [show l.length - j = (l.length - (j + 1)) + 1 by omega]
      show stepTo _ _ (l.getD (l.length - 1 - (l.length - (j + 1))) 0).toNat = _
      rw [show l.length - 1 - (l.length - (j + 1)) = j by omega, List.getD_eq_getElem?_getD, hxx]
      rfl
    have hS1 : Sl tab ks.int hp (.slice (some ⟨bs, 0, none⟩) (l.length + 1) (l.length + 1)) (rowM (rst t.right.next l) l.length (j + 1)) := Sl.one hbsp rfl rfl rfl (by rw [rowM_length]; omega) (rowM_length _ _ _)
    obtain ⟨p1, hp1, hq1⟩ := hS1.readG hwfp (ts := 26) rfl (rowM_get (rst t.right.next l) l.length (j + 1) (j + 1) hjl (Nat.le_refl _)) .i64
    obtain ⟨p2, u2, hp2, hu2, hq2⟩ := SlA.readG hxp hwfp (ts := 27) rfl h7 .i64
    obtain ⟨p3, hp3, hq3⟩ := Sl.readM hu2 hwfp (ts := 26) rfl h8 .i64
    repeat (first | refine zA ?_ | refine zB ?_ | refine zC ?_ | refine zD ?_ | refine zE ?_ | refine zF ?_ | refine zG rfl ?_ | refine zH ?_ | refine zI ?_ | refine zJ ?_ | refine zK ?_ | refine zL ?_ | refine zM ?_ | refine zN ?_ | refine zO ?_)
    refine PG.start _ rfl rfl ?_
    refine zW (by decide +kernel) rfl rfl rfl rfl rfl (by first | assumption | exact cload_of (by assumption) rfl) ?_
    refine zV (by decide +kernel) rfl rfl rfl rfl ?_
    refine zV (by decide +kernel) rfl rfl rfl rfl ?_
    refine zV (by decide +kernel) rfl rfl rfl rfl ?_
    refine zW (by decide +kernel) rfl rfl rfl rfl rfl (by first | assumption | exact cload_of (by assumption) rfl) ?_
    refine zW (by decide +kernel) rfl rfl rfl rfl rfl (by first | assumption | exact cload_of (by assumption) rfl) ?_
    refine zV (by decide +kernel) rfl rfl rfl rfl ?_
    refine zV (by decide +kernel) rfl rfl rfl (cbin_inc (T := tab) (h := hp) (t := 3) (xo := .tmp 22) (yo := .const (.int .i64 1)) (by omega)) ?_
    refine zV (by decide +kernel) rfl rfl rfl (hp1) ?_
    refine zV (by decide +kernel) rfl rfl rfl (hq1 _ (Gr.refl _)) ?_
    refine zV (by decide +kernel) rfl rfl rfl (hp2) ?_
    refine zV (by decide +kernel) rfl rfl rfl (hq2 _ (Gr.refl _)) ?_
    refine zV (by decide +kernel) rfl rfl rfl rfl ?_
    refine zV (by decide +kernel) rfl rfl rfl (hp3) ?_
    refine zV (by decide +kernel) rfl rfl rfl (hq3 _ (Gr.refl _)) ?_
    refine zV (by decide +kernel) rfl rfl rfl (indexAddr_one (T := tab) (t := 26) (el := 3) (k := .i64) (i := j) (len := l.length + 1) (b := bs) (o := 0) (c := l.length + 1) rfl rfl (show j < l.length + 1 by omega)) ?_
    repeat refine zU (by decide +kernel) ?_
    refine PG.nil ?_
    refine pd1.store (cs' := (rowM (rst t.right.next l) l.length (j + 1)).set j (.int .i64 (stepTo t.right.next (rst t.right.next l (l.length - (j + 1))) k : Int))) 16 rfl (by kernel_rfl) rfl rfl rfl rfl rfl hbsp rfl rfl rfl (by rw [Nat.zero_add]; exact lsplice_one _ _ _ (by rw [rowM_length]; omega)) hwfp fun h9 hwf9 u9 hc9 => ?_
    refine ⟨_, by (repeat (first | exact Reck.nil | (apply Reck.dropI; decide +kernel) | (apply Reck.keep; rfl) | (apply Reck.load; rfl; rfl; first | assumption | exact cload_of (by assumption) rfl) | (apply Reck.same; rfl) | (apply Reck.inc; rfl; rfl; rfl; omega))), ?_⟩
    repeat (first | refine zU (by decide +kernel) ?_ | refine zV (by decide +kernel) rfl rfl rfl rfl ?_ | refine zW (by decide +kernel) rfl rfl rfl rfl rfl (by first | assumption | exact cload_of (by assumption) rfl) ?_ | refine zX (by decide +kernel) rfl rfl rfl ?_)
    refine PG.nil ?_
    refine pd1.fin (by kernel_rfl) (by kernel_rfl) ?_
    repeat (first | refine zA ?_ | refine zB ?_ | refine zC ?_ | refine zD ?_ | refine zE ?_ | refine zF ?_ | refine zG rfl ?_ | refine zH ?_ | refine zI ?_ | refine zJ ?_ | refine zK ?_ | refine zL ?_ | refine zM ?_ | refine zN ?_ | refine zO ?_)
    rw [← hst, rowM_step _ _ _ (by omega)] at hc9
    rw [← hhp] at u9
    refine ⟨rfl, _, (u9.get _ (by omega)).trans CH.put_self, rfl, by omega, ?_⟩
    exact hj.step o1 o2 o3 hbb5 (Nat.lt_succ_self _) u9 hc9
  · rintro r hh ⟨⟨u, rfl⟩, ⟨_, hj⟩, hwfh⟩
    refine ⟨⟨_, rfl⟩, hj.hlid, ?_⟩
    generalize hhp : CH.put hh (h5.n + 1) _ = hp
    have gp : Gr h1 hp := by rw [← hhp]; exact hj.g.put (by omega) _
    have kp : ∀ c, c ≠ h5.n + 1 → hp.get c = hh.get c := fun c hc => by rw [← hhp]; exact CH.put_get hc
    have hbsp := (kp bs (by omega)).trans hj.hbs
    have hbop := (kp bo (by omega)).trans hj.hbo
    have hdp := (kp h5.n (by omega)).trans hj.hd
    repeat (first | refine zA ?_ | refine zB ?_ | refine zC ?_ | refine zD ?_ | refine zE ?_ | refine zF ?_ | refine zG rfl ?_ | refine zH ?_ | refine zI ?_ | refine zJ ?_ | refine zK ?_ | refine zL ?_ | refine zM ?_ | refine zN ?_ | refine zO ?_)
    repeat (first | refine zT rfl rfl rfl rfl rfl rfl (cbin_inc (by omega)) ?_ | refine zP rfl rfl rfl rfl rfl ?_ | refine zQ rfl rfl rfl ?_ | refine zR rfl rfl rfl rfl rfl (by first | assumption | exact cload_of (by assumption) rfl) ?_ | refine zS rfl rfl rfl rfl rfl rfl rfl rfl (by first | exact SlA.len (by assumption) rfl | exact Sl.map (by assumption) rfl | exact Sl.len (by assumption) rfl) ?_)
    refine pops.nil ?_
    repeat (first | refine zA ?_ | refine zB ?_ | refine zC ?_ | refine zD ?_ | refine zE ?_ | refine zF ?_ | refine zG rfl ?_ | refine zH ?_ | refine zI ?_ | refine zJ ?_ | refine zK ?_ | refine zL ?_ | refine zM ?_ | refine zN ?_ | refine zO ?_)
    refine pleave.rd hdp rfl ?_
    refine ⟨⟨_, rfl, ?_⟩, g1.trans (gp.put (by omega) _)⟩
    have : (hp.put h5.n (.deferred false)).get bs = some (.cells ((rightS t l).map (Value.int .i64)) false false) := by
      rw [CH.put_get (by omega), hbsp, rightS_row]
    exact Sl.one this rfl rfl rfl (by simp [rightS]; omega) (by simp [rightS])
end Go.Proofs.YtpcoponpfhnhlaaGreatDoor
set_option maxRecDepth 100000
set_option linter.unusedVariables false
set_option linter.unusedSimpArgs false
namespace Go.Proofs.YtpcoponpfhnhlaaGreatDoor
open Go.Cx
variable {w : World} {h : CH}
theorem nil_ints : SlI tab ks.int h (.slice none 0 0) [] := ⟨by decide, none, 0, rfl, fun i x hx => by simp at hx⟩
theorem fn_compare : tab.fn 35 = some Tryz.f35 := by kernel_rfl
theorem compare_calls {va vb : Value} {a b : List Int} (ha : SlI tab ks.int h va a) (hb : SlI tab ks.int h vb b) : CalF (X w) 35 [va, vb] h fun r h' => (∃ z : Int, r = .ret (.int .i64 z) ∧ (z = 0 ↔ a = b)) ∧ Gr h h' := by
  refine CalF.wf fun hwf => ?_
  have la := ha.lt
  have lb := hb.lt
  refine CalF.intro fn_compare rfl (Nat.le_of_ble_eq_true rfl) ?_
  repeat (first | refine zA ?_ | refine zB ?_ | refine zC ?_ | refine zD ?_ | refine zE ?_ | refine zF ?_ | refine zG rfl ?_ | refine zH ?_ | refine zI ?_ | refine zJ ?_ | refine zK ?_ | refine zL ?_ | refine zM ?_ | refine zN ?_ | refine zO ?_)
  repeat (first | refine zT rfl rfl rfl rfl rfl rfl (cbin_inc (by omega)) ?_ | refine zP rfl rfl rfl rfl rfl ?_ | refine zQ rfl rfl rfl ?_ | refine zR rfl rfl rfl rfl rfl (by first | assumption | exact cload_of (by assumption) rfl) ?_ | refine zS rfl rfl rfl rfl rfl rfl rfl rfl (by first | exact SlA.len (by assumption) rfl | exact Sl.map (by assumption) rfl | exact Sl.len (by assumption) rfl) ?_)
  refine pops.nil ?_
  repeat (first | refine zA ?_ | refine zB ?_ | refine zC ?_ | refine zD ?_ | refine zE ?_ | refine zF ?_ | refine zG rfl ?_ | refine zH ?_ | refine zI ?_ | refine zJ ?_ | refine zK ?_ | refine zL ?_ | refine zM ?_ | refine zN ?_ | refine zO ?_)
  repeat (first | refine zT rfl rfl rfl rfl rfl rfl (cbin_inc (by omega)) ?_ | refine zP rfl rfl rfl rfl rfl ?_ | refine zQ rfl rfl rfl ?_ | refine zR rfl rfl rfl rfl rfl (by first | assumption | exact cload_of (by assumption) rfl) ?_ | refine zS rfl rfl rfl rfl rfl rfl rfl rfl (by first | exact SlA.len (by assumption) rfl | exact Sl.map (by assumption) rfl | exact Sl.len (by assumption) rfl) ?_)
  refine pops.nil ?_
  repeat (first | refine zA ?_ | refine zB ?_ | refine zC ?_ | refine zD ?_ | refine zE ?_ | refine zF ?_ | refine zG rfl ?_ | refine zH ?_ | refine zI ?_ | refine zJ ?_ | refine zK ?_ | refine zL ?_ | refine zM ?_ | refine zN ?_ | refine zO ?_)
  refine Loops.ind 6 (fun i : Nat => [(0, va), (1, vb), (5, .int .i64 (i : Nat))]) (fun i h' => i ≤ a.length ∧ i ≤ b.length ∧ h' = h ∧ ∀ j, j < i → a[j]? = b[j]?) (fun i => a.length - i) 0 (by decide) ⟨rfl, rfl, rfl, trivial⟩ ⟨Nat.zero_le _, Nat.zero_le _, rfl, fun j hj => absurd hj (Nat.not_lt_zero j)⟩ ?_
  rintro i z h' hwf' ⟨hia, hib, rfl, hall⟩
  have fin : ∀ (q : Nat), i ≤ a.length → (a.length ≤ i ∨ b.length ≤ i) → a.length = b.length → a = b := fun _ _ h2 h3 => eq_of_get h3 fun j hj => hall j (by omega)
  repeat (first | refine zA ?_ | refine zB ?_ | refine zC ?_ | refine zD ?_ | refine zE ?_ | refine zF ?_ | refine zG rfl ?_ | refine zH ?_ | refine zI ?_ | refine zJ ?_ | refine zK ?_ | refine zL ?_ | refine zM ?_ | refine zN ?_ | refine zO ?_)
  repeat (first | refine zT rfl rfl rfl rfl rfl rfl (cbin_inc (by omega)) ?_ | refine zY rfl rfl rfl rfl rfl rfl ?_ | refine zQ rfl rfl rfl ?_ | refine zR rfl rfl rfl rfl rfl (by first | assumption | exact cload_of (by assumption) rfl) ?_ | refine zS rfl rfl rfl rfl rfl rfl rfl rfl (by first | exact SlA.len (by assumption) rfl | exact Sl.map (by assumption) rfl | exact Sl.len (by assumption) rfl) ?_)
  refine zZ rfl rfl rfl rfl rfl (fun q1 => ?_) (fun q1 => ?_)
  · repeat (first | refine zT rfl rfl rfl rfl rfl rfl (cbin_inc (by omega)) ?_ | refine zY rfl rfl rfl rfl rfl rfl ?_ | refine zQ rfl rfl rfl ?_ | refine zR rfl rfl rfl rfl rfl (by first | assumption | exact cload_of (by assumption) rfl) ?_ | refine zS rfl rfl rfl rfl rfl rfl rfl rfl (by first | exact SlA.len (by assumption) rfl | exact Sl.map (by assumption) rfl | exact Sl.len (by assumption) rfl) ?_)
    refine zZ rfl rfl rfl rfl rfl (fun q2 => ?_) (fun q2 => ?_)
    · simp at q1 q2
      obtain ⟨x, hx⟩ : ∃ x, a[i]? = some x := ⟨_, List.getElem?_eq_getElem (by omega)⟩
      obtain ⟨y, hy⟩ : ∃ y, b[i]? = some y := ⟨_, List.getElem?_eq_getElem (by omega)⟩
      obtain ⟨p1, hp1, hq1⟩ := Sl.readM ha hwf' (ts := 26) rfl hx .i64
      obtain ⟨p2, hp2, hq2⟩ := Sl.readM hb hwf' (ts := 26) rfl hy .i64
      repeat (first | refine zT rfl rfl rfl rfl rfl rfl (cbin_inc (by omega)) ?_ | refine zP rfl rfl rfl rfl rfl ?_ | refine zQ rfl rfl rfl ?_ | refine zR rfl rfl rfl rfl rfl (by first | assumption | exact cload_of (by assumption) rfl) ?_ | refine zS rfl rfl rfl rfl rfl rfl rfl rfl (by first | exact SlA.len (by assumption) rfl | exact Sl.map (by assumption) rfl | exact Sl.len (by assumption) rfl) ?_)
      refine pops.nil ?_
      repeat (first | refine zA ?_ | refine zB ?_ | refine zC ?_ | refine zD ?_ | refine zE ?_ | refine zF ?_ | refine zG rfl ?_ | refine zH ?_ | refine zI ?_ | refine zJ ?_ | refine zK ?_ | refine zL ?_ | refine zM ?_ | refine zN ?_ | refine zO ?_)
      refine pcond.t rfl ?_
      repeat (first | refine zA ?_ | refine zB ?_ | refine zC ?_ | refine zD ?_ | refine zE ?_ | refine zF ?_ | refine zG rfl ?_ | refine zH ?_ | refine zI ?_ | refine zJ ?_ | refine zK ?_ | refine zL ?_ | refine zM ?_ | refine zN ?_ | refine zO ?_)
      refine PG.start _ rfl rfl ?_
      refine zV (by decide +kernel) rfl rfl rfl rfl ?_
      refine zV (by decide +kernel) rfl rfl rfl rfl ?_
      refine zV (by decide +kernel) rfl rfl rfl (hp1) ?_
      refine zV (by decide +kernel) rfl rfl rfl (hq1 _ (Gr.refl _)) ?_
      refine zV (by decide +kernel) rfl rfl rfl rfl ?_
      refine zV (by decide +kernel) rfl rfl rfl rfl ?_
      refine zV (by decide +kernel) rfl rfl rfl (hp2) ?_
      refine zV (by decide +kernel) rfl rfl rfl (hq2 _ (Gr.refl _)) ?_
      refine zV (by decide +kernel) rfl rfl rfl rfl ?_
      refine PG.nil (pd1.fin (by kernel_rfl) (by kernel_rfl) ?_)
      repeat (first | refine zA ?_ | refine zB ?_ | refine zC ?_ | refine zD ?_ | refine zE ?_ | refine zF ?_ | refine zG rfl ?_ | refine zH ?_ | refine zI ?_ | refine zJ ?_ | refine zK ?_ | refine zL ?_ | refine zM ?_ | refine zN ?_ | refine zO ?_)
      refine pcond.d (p := x < y) rfl (fun hlt => ?_) (fun hge => ?_)
      · repeat (first | refine zA ?_ | refine zB ?_ | refine zC ?_ | refine zD ?_ | refine zE ?_ | refine zF ?_ | refine zG rfl ?_ | refine zH ?_ | refine zI ?_ | refine zJ ?_ | refine zK ?_ | refine zL ?_ | refine zM ?_ | refine zN ?_ | refine zO ?_)
        repeat (first | refine zT rfl rfl rfl rfl rfl rfl (cbin_inc (by omega)) ?_ | refine zP rfl rfl rfl rfl rfl ?_ | refine zQ rfl rfl rfl ?_ | refine zR rfl rfl rfl rfl rfl (by first | assumption | exact cload_of (by assumption) rfl) ?_ | refine zS rfl rfl rfl rfl rfl rfl rfl rfl (by first | exact SlA.len (by assumption) rfl | exact Sl.map (by assumption) rfl | exact Sl.len (by assumption) rfl) ?_)
        refine pops.nil ?_
        repeat (first | refine zA ?_ | refine zB ?_ | refine zC ?_ | refine zD ?_ | refine zE ?_ | refine zF ?_ | refine zG rfl ?_ | refine zH ?_ | refine zI ?_ | refine zJ ?_ | refine zK ?_ | refine zL ?_ | refine zM ?_ | refine zN ?_ | refine zO ?_)
        refine pleave.r rfl ?_
        refine ⟨⟨_, rfl, ⟨fun hh => absurd hh (by decide), fun hh => ?_⟩⟩, Gr.refl _⟩
        subst hh
        rw [hx] at hy
        cases hy
        omega
      repeat (first | refine zA ?_ | refine zB ?_ | refine zC ?_ | refine zD ?_ | refine zE ?_ | refine zF ?_ | refine zG rfl ?_ | refine zH ?_ | refine zI ?_ | refine zJ ?_ | refine zK ?_ | refine zL ?_ | refine zM ?_ | refine zN ?_ | refine zO ?_)
      refine PG.start _ rfl rfl ?_
      refine zV (by decide +kernel) rfl rfl rfl rfl ?_
      refine zV (by decide +kernel) rfl rfl rfl rfl ?_
      refine zV (by decide +kernel) rfl rfl rfl (hp1) ?_
      refine zV (by decide +kernel) rfl rfl rfl (hq1 _ (Gr.refl _)) ?_
      refine zV (by decide +kernel) rfl rfl rfl rfl ?_
      refine zV (by decide +kernel) rfl rfl rfl rfl ?_
      refine zV (by decide +kernel) rfl rfl rfl (hp2) ?_
      refine zV (by decide +kernel) rfl rfl rfl (hq2 _ (Gr.refl _)) ?_
      refine zV (by decide +kernel) rfl rfl rfl rfl ?_
      refine PG.nil (pd1.fin (by kernel_rfl) (by kernel_rfl) ?_)
      repeat (first | refine zA ?_ | refine zB ?_ | refine zC ?_ | refine zD ?_ | refine zE ?_ | refine zF ?_ | refine zG rfl ?_ | refine zH ?_ | refine zI ?_ | refine zJ ?_ | refine zK ?_ | refine zL ?_ | refine zM ?_ | refine zN ?_ | refine zO ?_)
      refine pcond.d (p := y < x) rfl (fun hlt => ?_) (fun hge2 => ?_)
      · repeat (first | refine zA ?_ | refine zB ?_ | refine zC ?_ | refine zD ?_ | refine zE ?_ | refine zF ?_ | refine zG rfl ?_ | refine zH ?_ | refine zI ?_ | refine zJ ?_ | refine zK ?_ | refine zL ?_ | refine zM ?_ | refine zN ?_ | refine zO ?_)
        repeat (first | refine zT rfl rfl rfl rfl rfl rfl (cbin_inc (by omega)) ?_ | refine zP rfl rfl rfl rfl rfl ?_ | refine zQ rfl rfl rfl ?_ | refine zR rfl rfl rfl rfl rfl (by first | assumption | exact cload_of (by assumption) rfl) ?_ | refine zS rfl rfl rfl rfl rfl rfl rfl rfl (by first | exact SlA.len (by assumption) rfl | exact Sl.map (by assumption) rfl | exact Sl.len (by assumption) rfl) ?_)
        refine pops.nil ?_
        repeat (first | refine zA ?_ | refine zB ?_ | refine zC ?_ | refine zD ?_ | refine zE ?_ | refine zF ?_ | refine zG rfl ?_ | refine zH ?_ | refine zI ?_ | refine zJ ?_ | refine zK ?_ | refine zL ?_ | refine zM ?_ | refine zN ?_ | refine zO ?_)
        refine pleave.r rfl ?_
        refine ⟨⟨_, rfl, ⟨fun hh => absurd hh (by decide), fun hh => ?_⟩⟩, Gr.refl _⟩
        subst hh
        rw [hx] at hy
        cases hy
        omega
      repeat (first | refine zA ?_ | refine zB ?_ | refine zC ?_ | refine zD ?_ | refine zE ?_ | refine zF ?_ | refine zG rfl ?_ | refine zH ?_ | refine zI ?_ | refine zJ ?_ | refine zK ?_ | refine zL ?_ | refine zM ?_ | refine zN ?_ | refine zO ?_)
      repeat (first | refine zT rfl rfl rfl rfl rfl rfl (cbin_inc (by omega)) ?_ | refine zP rfl rfl rfl rfl rfl ?_ | refine zQ rfl rfl rfl ?_ | refine zR rfl rfl rfl rfl rfl (by first | assumption | exact cload_of (by assumption) rfl) ?_ | refine zS rfl rfl rfl rfl rfl rfl rfl rfl (by first | exact SlA.len (by assumption) rfl | exact Sl.map (by assumption) rfl | exact Sl.len (by assumption) rfl) ?_)
      refine pops.nil ?_
      refine .n ⟨_, i + 1, rfl, ⟨rfl, rfl, rfl, trivial⟩, (by show a.length - (i + 1) < a.length - i; omega), by omega, by omega, rfl, fun j hj => ?_⟩
      rcases Nat.lt_or_ge j i with h1 | h1
      · exact hall j h1
      · obtain rfl : j = i := by omega
        rw [hx, hy]
        congr 1
        omega
    · simp at q1 q2
      repeat (first | refine zT rfl rfl rfl rfl rfl rfl (cbin_inc (by omega)) ?_ | refine zP rfl rfl rfl rfl rfl ?_ | refine zQ rfl rfl rfl ?_ | refine zR rfl rfl rfl rfl rfl (by first | assumption | exact cload_of (by assumption) rfl) ?_ | refine zS rfl rfl rfl rfl rfl rfl rfl rfl (by first | exact SlA.len (by assumption) rfl | exact Sl.map (by assumption) rfl | exact Sl.len (by assumption) rfl) ?_)
      refine pops.nil ?_
      repeat (first | refine zA ?_ | refine zB ?_ | refine zC ?_ | refine zD ?_ | refine zE ?_ | refine zF ?_ | refine zG rfl ?_ | refine zH ?_ | refine zI ?_ | refine zJ ?_ | refine zK ?_ | refine zL ?_ | refine zM ?_ | refine zN ?_ | refine zO ?_)
      refine pcond.f rfl ?_
      repeat (first | refine zA ?_ | refine zB ?_ | refine zC ?_ | refine zD ?_ | refine zE ?_ | refine zF ?_ | refine zG rfl ?_ | refine zH ?_ | refine zI ?_ | refine zJ ?_ | refine zK ?_ | refine zL ?_ | refine zM ?_ | refine zN ?_ | refine zO ?_)
      repeat (first | refine zT rfl rfl rfl rfl rfl rfl (cbin_inc (by omega)) ?_ | refine zP rfl rfl rfl rfl rfl ?_ | refine zQ rfl rfl rfl ?_ | refine zR rfl rfl rfl rfl rfl (by first | assumption | exact cload_of (by assumption) rfl) ?_ | refine zS rfl rfl rfl rfl rfl rfl rfl rfl (by first | exact SlA.len (by assumption) rfl | exact Sl.map (by assumption) rfl | exact Sl.len (by assumption) rfl) ?_)
      refine pops.nil ?_
      repeat (first | refine zA ?_ | refine zB ?_ | refine zC ?_ | refine zD ?_ | refine zE ?_ | refine zF ?_ | refine zG rfl ?_ | refine zH ?_ | refine zI ?_ | refine zJ ?_ | refine zK ?_ | refine zL ?_ | refine zM ?_ | refine zN ?_ | refine zO ?_)
      refine pcond.d (p := (a.length : Int) < (b.length : Nat)) rfl (fun hlt => ?_) (fun hge => ?_)
      · omega
      repeat (first | refine zA ?_ | refine zB ?_ | refine zC ?_ | refine zD ?_ | refine zE ?_ | refine zF ?_ | refine zG rfl ?_ | refine zH ?_ | refine zI ?_ | refine zJ ?_ | refine zK ?_ | refine zL ?_ | refine zM ?_ | refine zN ?_ | refine zO ?_)
      repeat (first | refine zT rfl rfl rfl rfl rfl rfl (cbin_inc (by omega)) ?_ | refine zP rfl rfl rfl rfl rfl ?_ | refine zQ rfl rfl rfl ?_ | refine zR rfl rfl rfl rfl rfl (by first | assumption | exact cload_of (by assumption) rfl) ?_ | refine zS rfl rfl rfl rfl rfl rfl rfl rfl (by first | exact SlA.len (by assumption) rfl | exact Sl.map (by assumption) rfl | exact Sl.len (by assumption) rfl) ?_)
      refine pops.nil ?_
      repeat (first | refine zA ?_ | refine zB ?_ | refine zC ?_ | refine zD ?_ | refine zE ?_ | refine zF ?_ | refine zG rfl ?_ | refine zH ?_ | refine zI ?_ | refine zJ ?_ | refine zK ?_ | refine zL ?_ | refine zM ?_ | refine zN ?_ | refine zO ?_)
      refine pcond.d (p := (b.length : Int) < (a.length : Nat)) rfl (fun hlt => ?_) (fun hge => ?_)
      · repeat (first | refine zA ?_ | refine zB ?_ | refine zC ?_ | refine zD ?_ | refine zE ?_ | refine zF ?_ | refine zG rfl ?_ | refine zH ?_ | refine zI ?_ | refine zJ ?_ | refine zK ?_ | refine zL ?_ | refine zM ?_ | refine zN ?_ | refine zO ?_)
        repeat (first | refine zT rfl rfl rfl rfl rfl rfl (cbin_inc (by omega)) ?_ | refine zP rfl rfl rfl rfl rfl ?_ | refine zQ rfl rfl rfl ?_ | refine zR rfl rfl rfl rfl rfl (by first | assumption | exact cload_of (by assumption) rfl) ?_ | refine zS rfl rfl rfl rfl rfl rfl rfl rfl (by first | exact SlA.len (by assumption) rfl | exact Sl.map (by assumption) rfl | exact Sl.len (by assumption) rfl) ?_)
        refine pops.nil ?_
        repeat (first | refine zA ?_ | refine zB ?_ | refine zC ?_ | refine zD ?_ | refine zE ?_ | refine zF ?_ | refine zG rfl ?_ | refine zH ?_ | refine zI ?_ | refine zJ ?_ | refine zK ?_ | refine zL ?_ | refine zM ?_ | refine zN ?_ | refine zO ?_)
        refine pleave.r rfl ?_
        refine ⟨⟨_, rfl, ⟨fun hh => absurd hh (by decide), fun hh => ?_⟩⟩, Gr.refl _⟩
        subst hh
        omega
      repeat (first | refine zA ?_ | refine zB ?_ | refine zC ?_ | refine zD ?_ | refine zE ?_ | refine zF ?_ | refine zG rfl ?_ | refine zH ?_ | refine zI ?_ | refine zJ ?_ | refine zK ?_ | refine zL ?_ | refine zM ?_ | refine zN ?_ | refine zO ?_)
      repeat (first | refine zT rfl rfl rfl rfl rfl rfl (cbin_inc (by omega)) ?_ | refine zP rfl rfl rfl rfl rfl ?_ | refine zQ rfl rfl rfl ?_ | refine zR rfl rfl rfl rfl rfl (by first | assumption | exact cload_of (by assumption) rfl) ?_ | refine zS rfl rfl rfl rfl rfl rfl rfl rfl (by first | exact SlA.len (by assumption) rfl | exact Sl.map (by assumption) rfl | exact Sl.len (by assumption) rfl) ?_)
      refine pops.nil ?_
      repeat (first | refine zA ?_ | refine zB ?_ | refine zC ?_ | refine zD ?_ | refine zE ?_ | refine zF ?_ | refine zG rfl ?_ | refine zH ?_ | refine zI ?_ | refine zJ ?_ | refine zK ?_ | refine zL ?_ | refine zM ?_ | refine zN ?_ | refine zO ?_)
      refine pleave.r rfl ?_
      exact ⟨⟨_, rfl, ⟨fun _ => fin 0 hia (by omega) (by omega), fun _ => rfl⟩⟩, Gr.refl _⟩
  · simp at q1
    repeat (first | refine zT rfl rfl rfl rfl rfl rfl (cbin_inc (by omega)) ?_ | refine zP rfl rfl rfl rfl rfl ?_ | refine zQ rfl rfl rfl ?_ | refine zR rfl rfl rfl rfl rfl (by first | assumption | exact cload_of (by assumption) rfl) ?_ | refine zS rfl rfl rfl rfl rfl rfl rfl rfl (by first | exact SlA.len (by assumption) rfl | exact Sl.map (by assumption) rfl | exact Sl.len (by assumption) rfl) ?_)
    refine pops.nil ?_
    repeat (first | refine zA ?_ | refine zB ?_ | refine zC ?_ | refine zD ?_ | refine zE ?_ | refine zF ?_ | refine zG rfl ?_ | refine zH ?_ | refine zI ?_ | refine zJ ?_ | refine zK ?_ | refine zL ?_ | refine zM ?_ | refine zN ?_ | refine zO ?_)
    refine pcond.f rfl ?_
    repeat (first | refine zA ?_ | refine zB ?_ | refine zC ?_ | refine zD ?_ | refine zE ?_ | refine zF ?_ | refine zG rfl ?_ | refine zH ?_ | refine zI ?_ | refine zJ ?_ | refine zK ?_ | refine zL ?_ | refine zM ?_ | refine zN ?_ | refine zO ?_)
    repeat (first | refine zT rfl rfl rfl rfl rfl rfl (cbin_inc (by omega)) ?_ | refine zP rfl rfl rfl rfl rfl ?_ | refine zQ rfl rfl rfl ?_ | refine zR rfl rfl rfl rfl rfl (by first | assumption | exact cload_of (by assumption) rfl) ?_ | refine zS rfl rfl rfl rfl rfl rfl rfl rfl (by first | exact SlA.len (by assumption) rfl | exact Sl.map (by assumption) rfl | exact Sl.len (by assumption) rfl) ?_)
    refine pops.nil ?_
    repeat (first | refine zA ?_ | refine zB ?_ | refine zC ?_ | refine zD ?_ | refine zE ?_ | refine zF ?_ | refine zG rfl ?_ | refine zH ?_ | refine zI ?_ | refine zJ ?_ | refine zK ?_ | refine zL ?_ | refine zM ?_ | refine zN ?_ | refine zO ?_)
    refine pcond.d (p := (a.length : Int) < (b.length : Nat)) rfl (fun hlt => ?_) (fun hge => ?_)
    · repeat (first | refine zA ?_ | refine zB ?_ | refine zC ?_ | refine zD ?_ | refine zE ?_ | refine zF ?_ | refine zG rfl ?_ | refine zH ?_ | refine zI ?_ | refine zJ ?_ | refine zK ?_ | refine zL ?_ | refine zM ?_ | refine zN ?_ | refine zO ?_)
      repeat (first | refine zT rfl rfl rfl rfl rfl rfl (cbin_inc (by omega)) ?_ | refine zP rfl rfl rfl rfl rfl ?_ | refine zQ rfl rfl rfl ?_ | refine zR rfl rfl rfl rfl rfl (by first | assumption | exact cload_of (by assumption) rfl) ?_ | refine zS rfl rfl rfl rfl rfl rfl rfl rfl (by first | exact SlA.len (by assumption) rfl | exact Sl.map (by assumption) rfl | exact Sl.len (by assumption) rfl) ?_)
      refine pops.nil ?_
      repeat (first | refine zA ?_ | refine zB ?_ | refine zC ?_ | refine zD ?_ | refine zE ?_ | refine zF ?_ | refine zG rfl ?_ | refine zH ?_ | refine zI ?_ | refine zJ ?_ | refine zK ?_ | refine zL ?_ | refine zM ?_ | refine zN ?_ | refine zO ?_)
      refine pleave.r rfl ?_
      refine ⟨⟨_, rfl, ⟨fun hh => absurd hh (by decide), fun hh => ?_⟩⟩, Gr.refl _⟩
      subst hh
      omega
    repeat (first | refine zA ?_ | refine zB ?_ | refine zC ?_ | refine zD ?_ | refine zE ?_ | refine zF ?_ | refine zG rfl ?_ | refine zH ?_ | refine zI ?_ | refine zJ ?_ | refine zK ?_ | refine zL ?_ | refine zM ?_ | refine zN ?_ | refine zO ?_)
    repeat (first | refine zT rfl rfl rfl rfl rfl rfl (cbin_inc (by omega)) ?_ | refine zP rfl rfl rfl rfl rfl ?_ | refine zQ rfl rfl rfl ?_ | refine zR rfl rfl rfl rfl rfl (by first | assumption | exact cload_of (by assumption) rfl) ?_ | refine zS rfl rfl rfl rfl rfl rfl rfl rfl (by first | exact SlA.len (by assumption) rfl | exact Sl.map (by assumption) rfl | exact Sl.len (by assumption) rfl) ?_)
    refine pops.nil ?_
    repeat (first | refine zA ?_ | refine zB ?_ | refine zC ?_ | refine zD ?_ | refine zE ?_ | refine zF ?_ | refine zG rfl ?_ | refine zH ?_ | refine zI ?_ | refine zJ ?_ | refine zK ?_ | refine zL ?_ | refine zM ?_ | refine zN ?_ | refine zO ?_)
    refine pcond.d (p := (b.length : Int) < (a.length : Nat)) rfl (fun hlt => ?_) (fun hge => ?_)
    · repeat (first | refine zA ?_ | refine zB ?_ | refine zC ?_ | refine zD ?_ | refine zE ?_ | refine zF ?_ | refine zG rfl ?_ | refine zH ?_ | refine zI ?_ | refine zJ ?_ | refine zK ?_ | refine zL ?_ | refine zM ?_ | refine zN ?_ | refine zO ?_)
      repeat (first | refine zT rfl rfl rfl rfl rfl rfl (cbin_inc (by omega)) ?_ | refine zP rfl rfl rfl rfl rfl ?_ | refine zQ rfl rfl rfl ?_ | refine zR rfl rfl rfl rfl rfl (by first | assumption | exact cload_of (by assumption) rfl) ?_ | refine zS rfl rfl rfl rfl rfl rfl rfl rfl (by first | exact SlA.len (by assumption) rfl | exact Sl.map (by assumption) rfl | exact Sl.len (by assumption) rfl) ?_)
      refine pops.nil ?_
      repeat (first | refine zA ?_ | refine zB ?_ | refine zC ?_ | refine zD ?_ | refine zE ?_ | refine zF ?_ | refine zG rfl ?_ | refine zH ?_ | refine zI ?_ | refine zJ ?_ | refine zK ?_ | refine zL ?_ | refine zM ?_ | refine zN ?_ | refine zO ?_)
      refine pleave.r rfl ?_
      refine ⟨⟨_, rfl, ⟨fun hh => absurd hh (by decide), fun hh => ?_⟩⟩, Gr.refl _⟩
      subst hh
      omega
    repeat (first | refine zA ?_ | refine zB ?_ | refine zC ?_ | refine zD ?_ | refine zE ?_ | refine zF ?_ | refine zG rfl ?_ | refine zH ?_ | refine zI ?_ | refine zJ ?_ | refine zK ?_ | refine zL ?_ | refine zM ?_ | refine zN ?_ | refine zO ?_)
    repeat (first | refine zT rfl rfl rfl rfl rfl rfl (cbin_inc (by omega)) ?_ | refine zP rfl rfl rfl rfl rfl ?_ | refine zQ rfl rfl rfl ?_ | refine zR rfl rfl rfl rfl rfl (by first | assumption | exact cload_of (by assumption) rfl) ?_ | refine zS rfl rfl rfl rfl rfl rfl rfl rfl (by first | exact SlA.len (by assumption) rfl | exact Sl.map (by assumption) rfl | exact Sl.len (by assumption) rfl) ?_)
    refine pops.nil ?_
    repeat (first | refine zA ?_ | refine zB ?_ | refine zC ?_ | refine zD ?_ | refine zE ?_ | refine zF ?_ | refine zG rfl ?_ | refine zH ?_ | refine zI ?_ | refine zJ ?_ | refine zK ?_ | refine zL ?_ | refine zM ?_ | refine zN ?_ | refine zO ?_)
    refine pleave.r rfl ?_
    exact ⟨⟨_, rfl, ⟨fun _ => fin 0 hia (by omega) (by omega), fun _ => rfl⟩⟩, Gr.refl _⟩
theorem fn_equal : tab.fn 16 = some Tryz.f16 := by kernel_rfl
theorem equal_calls {va vb : Value} {a b : List Int} (ha : SlI tab ks.int h va a) (hb : SlI tab ks.int h vb b) : CalF (X w) 16 [va, vb] h fun r h' => r = .ret (.bool (decide (a = b))) ∧ Gr h h' := by
  refine CalF.intro fn_equal rfl (Nat.le_of_ble_eq_true rfl) ?_
  repeat (first | refine zA ?_ | refine zB ?_ | refine zC ?_ | refine zD ?_ | refine zE ?_ | refine zF ?_ | refine zG rfl ?_ | refine zH ?_ | refine zI ?_ | refine zJ ?_ | refine zK ?_ | refine zL ?_ | refine zM ?_ | refine zN ?_ | refine zO ?_)
  repeat (first | refine zT rfl rfl rfl rfl rfl rfl (cbin_inc (by omega)) ?_ | refine zP rfl rfl rfl rfl rfl ?_ | refine zQ rfl rfl rfl ?_ | refine zR rfl rfl rfl rfl rfl (by first | assumption | exact cload_of (by assumption) rfl) ?_ | refine zS rfl rfl rfl rfl rfl rfl rfl rfl (by first | exact SlA.len (by assumption) rfl | exact Sl.map (by assumption) rfl | exact Sl.len (by assumption) rfl) ?_)
  refine pops.nil ?_
  repeat (first | refine zA ?_ | refine zB ?_ | refine zC ?_ | refine zD ?_ | refine zE ?_ | refine zF ?_ | refine zG rfl ?_ | refine zH ?_ | refine zI ?_ | refine zJ ?_ | refine zK ?_ | refine zL ?_ | refine zM ?_ | refine zN ?_ | refine zO ?_)
  repeat (first | refine zT rfl rfl rfl rfl rfl rfl (cbin_inc (by omega)) ?_ | refine zP rfl rfl rfl rfl rfl ?_ | refine zQ rfl rfl rfl ?_ | refine zR rfl rfl rfl rfl rfl (by first | assumption | exact cload_of (by assumption) rfl) ?_ | refine zS rfl rfl rfl rfl rfl rfl rfl rfl (by first | exact SlA.len (by assumption) rfl | exact Sl.map (by assumption) rfl | exact Sl.len (by assumption) rfl) ?_)
  refine pops.callV rfl rfl rfl rfl rfl fn_compare rfl rfl ((compare_calls ha hb).mono fun r h2 hh => ?_)
  obtain ⟨⟨z, rfl, hz⟩, g⟩ := hh
  refine ⟨_, rfl, ?_⟩
  repeat (first | refine zT rfl rfl rfl rfl rfl rfl (cbin_inc (by omega)) ?_ | refine zP rfl rfl rfl rfl rfl ?_ | refine zQ rfl rfl rfl ?_ | refine zR rfl rfl rfl rfl rfl (by first | assumption | exact cload_of (by assumption) rfl) ?_ | refine zS rfl rfl rfl rfl rfl rfl rfl rfl (by first | exact SlA.len (by assumption) rfl | exact Sl.map (by assumption) rfl | exact Sl.len (by assumption) rfl) ?_)
  refine pops.nil ?_
  repeat (first | refine zA ?_ | refine zB ?_ | refine zC ?_ | refine zD ?_ | refine zE ?_ | refine zF ?_ | refine zG rfl ?_ | refine zH ?_ | refine zI ?_ | refine zJ ?_ | refine zK ?_ | refine zL ?_ | refine zM ?_ | refine zN ?_ | refine zO ?_)
  refine pleave.r rfl ?_
  refine ⟨?_, g⟩
  show CRes.ret (.bool (decide (z = 0))) = CRes.ret (.bool (decide (a = b)))
  rw [decide_eq_decide.2 hz]
end Go.Proofs.YtpcoponpfhnhlaaGreatDoor
set_option maxRecDepth 100000
set_option linter.unusedVariables false
set_option linter.unusedSimpArgs false
namespace Go.Proofs.YtpcoponpfhnhlaaGreatDoor
open Go.Cx
variable {w : World} {h : CH}
theorem fn_index : tab.fn 88 = some Tryz.f88 := by kernel_rfl
theorem index_calls {v : Value} {l : List Int} (q : Int) (hv : SlI tab ks.int h v l) :
    CalF (X w) 88 [v, .int .i64 q] h fun r h' => (∃ i : Nat, r = .ret (.int .i64 (i : Int)) ∧ q ∈ l ∨ r = .ret (.int .i64 (-1)) ∧ q ∉ l) ∧ Gr h h' := by
  refine CalF.wf fun hwf => ?_
  have hlt := hv.lt
  refine CalF.intro fn_index rfl (Nat.le_of_ble_eq_true rfl) ?_
  repeat (first | refine zA ?_ | refine zB ?_ | refine zC ?_ | refine zD ?_ | refine zE ?_ | refine zF ?_ | refine zG rfl ?_ | refine zH ?_ | refine zI ?_ | refine zJ ?_ | refine zK ?_ | refine zL ?_ | refine zM ?_ | refine zN ?_ | refine zO ?_)
  repeat (first | refine zT rfl rfl rfl rfl rfl rfl (cbin_inc (by omega)) ?_ | refine zP rfl rfl rfl rfl rfl ?_ | refine zQ rfl rfl rfl ?_ | refine zR rfl rfl rfl rfl rfl (by first | assumption | exact cload_of (by assumption) rfl) ?_ | refine zS rfl rfl rfl rfl rfl rfl rfl rfl (by first | exact SlA.len (by assumption) rfl | exact Sl.map (by assumption) rfl | exact Sl.len (by assumption) rfl) ?_)
  refine pops.nil ?_
  repeat (first | refine zA ?_ | refine zB ?_ | refine zC ?_ | refine zD ?_ | refine zE ?_ | refine zF ?_ | refine zG rfl ?_ | refine zH ?_ | refine zI ?_ | refine zJ ?_ | refine zK ?_ | refine zL ?_ | refine zM ?_ | refine zN ?_ | refine zO ?_)
  repeat (first | refine zT rfl rfl rfl rfl rfl rfl (cbin_inc (by omega)) ?_ | refine zP rfl rfl rfl rfl rfl ?_ | refine zQ rfl rfl rfl ?_ | refine zR rfl rfl rfl rfl rfl (by first | assumption | exact cload_of (by assumption) rfl) ?_ | refine zS rfl rfl rfl rfl rfl rfl rfl rfl (by first | exact SlA.len (by assumption) rfl | exact Sl.map (by assumption) rfl | exact Sl.len (by assumption) rfl) ?_)
  refine pops.nil ?_
  repeat (first | refine zA ?_ | refine zB ?_ | refine zC ?_ | refine zD ?_ | refine zE ?_ | refine zF ?_ | refine zG rfl ?_ | refine zH ?_ | refine zI ?_ | refine zJ ?_ | refine zK ?_ | refine zL ?_ | refine zM ?_ | refine zN ?_ | refine zO ?_)
  refine Loops.ind 5 (fun i : Nat => [(0, v), (1, .int .i64 q), (4, .int .i64 0), (7, .int .i64 (l.length : Nat)), (8, .int .i64 (i : Nat))]) (fun i h' => i ≤ l.length ∧ h' = h ∧ ∀ (j : Nat) x, j < i → l[j]? = some x → x ≠ q) (fun i => l.length - i) 0 (by decide) ⟨rfl, rfl, rfl, rfl, rfl, trivial⟩ ⟨Nat.zero_le _, rfl, all_none⟩ ?_
  rintro i z h' hwf' ⟨hi, rfl, hall⟩
  repeat (first | refine zA ?_ | refine zB ?_ | refine zC ?_ | refine zD ?_ | refine zE ?_ | refine zF ?_ | refine zG rfl ?_ | refine zH ?_ | refine zI ?_ | refine zJ ?_ | refine zK ?_ | refine zL ?_ | refine zM ?_ | refine zN ?_ | refine zO ?_)
  refine zP rfl rfl rfl rfl rfl ?_
  refine pops.nil ?_
  repeat (first | refine zA ?_ | refine zB ?_ | refine zC ?_ | refine zD ?_ | refine zE ?_ | refine zF ?_ | refine zG rfl ?_ | refine zH ?_ | refine zI ?_ | refine zJ ?_ | refine zK ?_ | refine zL ?_ | refine zM ?_ | refine zN ?_ | refine zO ?_)
  refine pcond.d (p := (i : Int) < (l.length : Nat)) rfl (fun hlt' => ?_) (fun hge => ?_)
  · have hlt' : i < l.length := by omega
    obtain ⟨x, hx⟩ : ∃ x, l[i]? = some x := ⟨_, List.getElem?_eq_getElem hlt'⟩
    repeat (first | refine zA ?_ | refine zB ?_ | refine zC ?_ | refine zD ?_ | refine zE ?_ | refine zF ?_ | refine zG rfl ?_ | refine zH ?_ | refine zI ?_ | refine zJ ?_ | refine zK ?_ | refine zL ?_ | refine zM ?_ | refine zN ?_ | refine zO ?_)
    repeat (first | refine zT rfl rfl rfl rfl rfl rfl (cbin_inc (by omega)) ?_ | refine zP rfl rfl rfl rfl rfl ?_ | refine zQ rfl rfl rfl ?_ | refine zR rfl rfl rfl rfl rfl (by first | assumption | exact cload_of (by assumption) rfl) ?_ | refine zS rfl rfl rfl rfl rfl rfl rfl rfl (by first | exact SlA.len (by assumption) rfl | exact Sl.map (by assumption) rfl | exact Sl.len (by assumption) rfl) ?_)
    refine pops.nil ?_
    repeat (first | refine zA ?_ | refine zB ?_ | refine zC ?_ | refine zD ?_ | refine zE ?_ | refine zF ?_ | refine zG rfl ?_ | refine zH ?_ | refine zI ?_ | refine zJ ?_ | refine zK ?_ | refine zL ?_ | refine zM ?_ | refine zN ?_ | refine zO ?_)
    repeat (first | refine zT rfl rfl rfl rfl rfl rfl (cbin_inc (by omega)) ?_ | refine zP rfl rfl rfl rfl rfl ?_ | refine zQ rfl rfl rfl ?_ | refine zR rfl rfl rfl rfl rfl (by first | assumption | exact cload_of (by assumption) rfl) ?_ | refine zS rfl rfl rfl rfl rfl rfl rfl rfl (by first | exact SlA.len (by assumption) rfl | exact Sl.map (by assumption) rfl | exact Sl.len (by assumption) rfl) ?_)
    refine pops.atI (f := Value.int .i64) rfl rfl rfl rfl rfl rfl rfl hv hx fun p hp => ?_
    refine zR rfl rfl rfl rfl rfl (by first | assumption | exact cload_of (by assumption) rfl) ?_
    refine zZ rfl rfl rfl rfl rfl (fun e => ?_) (fun e => ?_)
    · refine pops.nil ?_
      repeat (first | refine zA ?_ | refine zB ?_ | refine zC ?_ | refine zD ?_ | refine zE ?_ | refine zF ?_ | refine zG rfl ?_ | refine zH ?_ | refine zI ?_ | refine zJ ?_ | refine zK ?_ | refine zL ?_ | refine zM ?_ | refine zN ?_ | refine zO ?_)
      refine pcond.t rfl ?_
      repeat (first | refine zA ?_ | refine zB ?_ | refine zC ?_ | refine zD ?_ | refine zE ?_ | refine zF ?_ | refine zG rfl ?_ | refine zH ?_ | refine zI ?_ | refine zJ ?_ | refine zK ?_ | refine zL ?_ | refine zM ?_ | refine zN ?_ | refine zO ?_)
      repeat (first | refine zT rfl rfl rfl rfl rfl rfl (cbin_inc (by omega)) ?_ | refine zP rfl rfl rfl rfl rfl ?_ | refine zQ rfl rfl rfl ?_ | refine zR rfl rfl rfl rfl rfl (by first | assumption | exact cload_of (by assumption) rfl) ?_ | refine zS rfl rfl rfl rfl rfl rfl rfl rfl (by first | exact SlA.len (by assumption) rfl | exact Sl.map (by assumption) rfl | exact Sl.len (by assumption) rfl) ?_)
      refine pops.nil ?_
      repeat (first | refine zA ?_ | refine zB ?_ | refine zC ?_ | refine zD ?_ | refine zE ?_ | refine zF ?_ | refine zG rfl ?_ | refine zH ?_ | refine zI ?_ | refine zJ ?_ | refine zK ?_ | refine zL ?_ | refine zM ?_ | refine zN ?_ | refine zO ?_)
      refine pleave.r rfl ?_
      refine ⟨⟨i, .inl ⟨rfl, ?_⟩⟩, Gr.refl _⟩
      have : q = x := by simpa using e
      rw [this]
      exact List.mem_of_getElem? hx
    · refine pops.nil ?_
      repeat (first | refine zA ?_ | refine zB ?_ | refine zC ?_ | refine zD ?_ | refine zE ?_ | refine zF ?_ | refine zG rfl ?_ | refine zH ?_ | refine zI ?_ | refine zJ ?_ | refine zK ?_ | refine zL ?_ | refine zM ?_ | refine zN ?_ | refine zO ?_)
      refine pcond.f rfl ?_
      repeat (first | refine zA ?_ | refine zB ?_ | refine zC ?_ | refine zD ?_ | refine zE ?_ | refine zF ?_ | refine zG rfl ?_ | refine zH ?_ | refine zI ?_ | refine zJ ?_ | refine zK ?_ | refine zL ?_ | refine zM ?_ | refine zN ?_ | refine zO ?_)
      repeat (first | refine zT rfl rfl rfl rfl rfl rfl (cbin_inc (by omega)) ?_ | refine zP rfl rfl rfl rfl rfl ?_ | refine zQ rfl rfl rfl ?_ | refine zR rfl rfl rfl rfl rfl (by first | assumption | exact cload_of (by assumption) rfl) ?_ | refine zS rfl rfl rfl rfl rfl rfl rfl rfl (by first | exact SlA.len (by assumption) rfl | exact Sl.map (by assumption) rfl | exact Sl.len (by assumption) rfl) ?_)
      refine pops.nil ?_
      refine .n ⟨_, i + 1, rfl, ⟨rfl, rfl, rfl, rfl, rfl, trivial⟩, (by show l.length - (i + 1) < l.length - i; omega), by omega, rfl, all_next hall hx (fun hh => by subst hh; simp at e)⟩
  · repeat (first | refine zA ?_ | refine zB ?_ | refine zC ?_ | refine zD ?_ | refine zE ?_ | refine zF ?_ | refine zG rfl ?_ | refine zH ?_ | refine zI ?_ | refine zJ ?_ | refine zK ?_ | refine zL ?_ | refine zM ?_ | refine zN ?_ | refine zO ?_)
    repeat (first | refine zT rfl rfl rfl rfl rfl rfl (cbin_inc (by omega)) ?_ | refine zP rfl rfl rfl rfl rfl ?_ | refine zQ rfl rfl rfl ?_ | refine zR rfl rfl rfl rfl rfl (by first | assumption | exact cload_of (by assumption) rfl) ?_ | refine zS rfl rfl rfl rfl rfl rfl rfl rfl (by first | exact SlA.len (by assumption) rfl | exact Sl.map (by assumption) rfl | exact Sl.len (by assumption) rfl) ?_)
    refine pops.nil ?_
    repeat (first | refine zA ?_ | refine zB ?_ | refine zC ?_ | refine zD ?_ | refine zE ?_ | refine zF ?_ | refine zG rfl ?_ | refine zH ?_ | refine zI ?_ | refine zJ ?_ | refine zK ?_ | refine zL ?_ | refine zM ?_ | refine zN ?_ | refine zO ?_)
    refine pleave.r rfl ?_
    exact ⟨⟨0, .inr ⟨rfl, fun hm => all_end hall (by omega) q hm rfl⟩⟩, Gr.refl _⟩
theorem fn_contains : tab.fn 69 = some Tryz.f69 := by kernel_rfl
theorem contains_calls {v : Value} {l : List Int} (q : Int) (hv : SlI tab ks.int h v l) : CalF (X w) 69 [v, .int .i64 q] h fun r h' => r = .ret (.bool (decide (q ∈ l))) ∧ Gr h h' := by
  refine CalF.intro fn_contains rfl (Nat.le_of_ble_eq_true rfl) ?_
  repeat (first | refine zA ?_ | refine zB ?_ | refine zC ?_ | refine zD ?_ | refine zE ?_ | refine zF ?_ | refine zG rfl ?_ | refine zH ?_ | refine zI ?_ | refine zJ ?_ | refine zK ?_ | refine zL ?_ | refine zM ?_ | refine zN ?_ | refine zO ?_)
  repeat (first | refine zT rfl rfl rfl rfl rfl rfl (cbin_inc (by omega)) ?_ | refine zP rfl rfl rfl rfl rfl ?_ | refine zQ rfl rfl rfl ?_ | refine zR rfl rfl rfl rfl rfl (by first | assumption | exact cload_of (by assumption) rfl) ?_ | refine zS rfl rfl rfl rfl rfl rfl rfl rfl (by first | exact SlA.len (by assumption) rfl | exact Sl.map (by assumption) rfl | exact Sl.len (by assumption) rfl) ?_)
  refine pops.nil ?_
  repeat (first | refine zA ?_ | refine zB ?_ | refine zC ?_ | refine zD ?_ | refine zE ?_ | refine zF ?_ | refine zG rfl ?_ | refine zH ?_ | refine zI ?_ | refine zJ ?_ | refine zK ?_ | refine zL ?_ | refine zM ?_ | refine zN ?_ | refine zO ?_)
  repeat (first | refine zT rfl rfl rfl rfl rfl rfl (cbin_inc (by omega)) ?_ | refine zP rfl rfl rfl rfl rfl ?_ | refine zQ rfl rfl rfl ?_ | refine zR rfl rfl rfl rfl rfl (by first | assumption | exact cload_of (by assumption) rfl) ?_ | refine zS rfl rfl rfl rfl rfl rfl rfl rfl (by first | exact SlA.len (by assumption) rfl | exact Sl.map (by assumption) rfl | exact Sl.len (by assumption) rfl) ?_)
  refine pops.callV rfl rfl rfl rfl rfl fn_index rfl rfl ((index_calls q hv).mono fun r h2 hh => ?_)
  obtain ⟨⟨i, ⟨rfl, hr⟩ | ⟨rfl, hr⟩⟩, g⟩ := hh
  · refine ⟨_, rfl, ?_⟩
    repeat (first | refine zT rfl rfl rfl rfl rfl rfl (cbin_inc (by omega)) ?_ | refine zP rfl rfl rfl rfl rfl ?_ | refine zQ rfl rfl rfl ?_ | refine zR rfl rfl rfl rfl rfl (by first | assumption | exact cload_of (by assumption) rfl) ?_ | refine zS rfl rfl rfl rfl rfl rfl rfl rfl (by first | exact SlA.len (by assumption) rfl | exact Sl.map (by assumption) rfl | exact Sl.len (by assumption) rfl) ?_)
    refine pops.nil ?_
    repeat (first | refine zA ?_ | refine zB ?_ | refine zC ?_ | refine zD ?_ | refine zE ?_ | refine zF ?_ | refine zG rfl ?_ | refine zH ?_ | refine zI ?_ | refine zJ ?_ | refine zK ?_ | refine zL ?_ | refine zM ?_ | refine zN ?_ | refine zO ?_)
    refine pleave.r rfl ?_
    rw [decide_eq_true hr]
    exact ⟨by simp, g⟩
  · refine ⟨_, rfl, ?_⟩
    repeat (first | refine zT rfl rfl rfl rfl rfl rfl (cbin_inc (by omega)) ?_ | refine zP rfl rfl rfl rfl rfl ?_ | refine zQ rfl rfl rfl ?_ | refine zR rfl rfl rfl rfl rfl (by first | assumption | exact cload_of (by assumption) rfl) ?_ | refine zS rfl rfl rfl rfl rfl rfl rfl rfl (by first | exact SlA.len (by assumption) rfl | exact Sl.map (by assumption) rfl | exact Sl.len (by assumption) rfl) ?_)
    refine pops.nil ?_
    repeat (first | refine zA ?_ | refine zB ?_ | refine zC ?_ | refine zD ?_ | refine zE ?_ | refine zF ?_ | refine zG rfl ?_ | refine zH ?_ | refine zI ?_ | refine zJ ?_ | refine zK ?_ | refine zL ?_ | refine zM ?_ | refine zN ?_ | refine zO ?_)
    refine pleave.r rfl ?_
    rw [decide_eq_false hr]
    exact ⟨by simp, g⟩
theorem fn_decided : tab.fn 46 = some Tryz.f46 := by kernel_rfl
theorem decided_calls {v : Value} {t : TabD} {s u : Nat} (hv : TabV tab ks h v t) (hP : ValidP t) (hs : s < t.left.next.length) (hu : u < t.right.next.length) :
    CalF (X w) 46 [v, .int .i64 (s : Int), .int .i64 (u : Int)] h fun r h' => r = .ret (.tuple #[.int .i64 (decS t s u).1, .int .i64 (decS t s u).2]) ∧ Gr h h' := by
  refine CalF.wf fun hwf => ?_
  obtain ⟨c, a, x, y, x', y', rfl, ho, hcl, hac, hx, hy, hx', hy'⟩ := hv
  simp only [Bool.and_eq_true] at ho
  obtain ⟨m, hm1, hm2, hm3⟩ := mark_ok hP.2.2.2.1 hs
  obtain ⟨rm, hr1, hr2, hr3⟩ := mark_ok hP.2.2.2.2 hu
  refine CalF.intro fn_decided rfl (Nat.le_of_ble_eq_true rfl) ?_
  repeat (first | refine zA ?_ | refine zB ?_ | refine zC ?_ | refine zD ?_ | refine zE ?_ | refine zF ?_ | refine zG rfl ?_ | refine zH ?_ | refine zI ?_ | refine zJ ?_ | refine zK ?_ | refine zL ?_ | refine zM ?_ | refine zN ?_ | refine zO ?_)
  refine pops.box (cs := [c, a, x, y, x', y']) rfl rfl rfl rfl (by simp [ho]) rfl rfl hwf fun b h1 hb hwf1 g1 hc => ?_
  replace hy := hy.gr hwf g1
  replace hy' := hy'.gr hwf g1
  replace hac := Sl.gr hac hwf g1
  repeat (first | refine zT rfl rfl rfl rfl rfl rfl (cbin_inc (by omega)) ?_ | refine zP rfl rfl rfl rfl rfl ?_ | refine zQ rfl rfl rfl ?_ | refine zR rfl rfl rfl rfl rfl (by first | assumption | exact cload_of (by assumption) rfl) ?_ | refine zS rfl rfl rfl rfl rfl rfl rfl rfl (by first | exact SlA.len (by assumption) rfl | exact Sl.map (by assumption) rfl | exact Sl.len (by assumption) rfl) ?_)
  refine pops.nil ?_
  repeat (first | refine zA ?_ | refine zB ?_ | refine zC ?_ | refine zD ?_ | refine zE ?_ | refine zF ?_ | refine zG rfl ?_ | refine zH ?_ | refine zI ?_ | refine zJ ?_ | refine zK ?_ | refine zL ?_ | refine zM ?_ | refine zN ?_ | refine zO ?_)
  repeat (first | refine zT rfl rfl rfl rfl rfl rfl (cbin_inc (by omega)) ?_ | refine zP rfl rfl rfl rfl rfl ?_ | refine zQ rfl rfl rfl ?_ | refine zR rfl rfl rfl rfl rfl (by first | assumption | exact cload_of (by assumption) rfl) ?_ | refine zS rfl rfl rfl rfl rfl rfl rfl rfl (by first | exact SlA.len (by assumption) rfl | exact Sl.map (by assumption) rfl | exact Sl.len (by assumption) rfl) ?_)
  refine pops.atA rfl rfl rfl rfl rfl rfl rfl hy hm1 fun p um hp hum => ?_
  have lm := hum.lt
  repeat (first | refine zT rfl rfl rfl rfl rfl rfl (cbin_inc (by omega)) ?_ | refine zP rfl rfl rfl rfl rfl ?_ | refine zQ rfl rfl rfl ?_ | refine zR rfl rfl rfl rfl rfl (by first | assumption | exact cload_of (by assumption) rfl) ?_ | refine zS rfl rfl rfl rfl rfl rfl rfl rfl (by first | exact SlA.len (by assumption) rfl | exact Sl.map (by assumption) rfl | exact Sl.len (by assumption) rfl) ?_)
  refine pops.nil ?_
  repeat (first | refine zA ?_ | refine zB ?_ | refine zC ?_ | refine zD ?_ | refine zE ?_ | refine zF ?_ | refine zG rfl ?_ | refine zH ?_ | refine zI ?_ | refine zJ ?_ | refine zK ?_ | refine zL ?_ | refine zM ?_ | refine zN ?_ | refine zO ?_)
  refine Loops.ind 6 (fun i : Nat => [(2, .int .i64 (u : Int)), (3, .pointer (some ⟨b, 0, none⟩)), (15, um), (16, .int .i64 (m.length : Nat)), (17, .int .i64 (i : Nat))]) (fun i h' => i ≤ m.length ∧ Gr h1 h' ∧ ∀ (j : Nat) z, j < i → m[j]? = some z → decide (z ∈ rm) = false) (fun i => m.length - i) 0 (by decide) ⟨rfl, rfl, rfl, rfl, rfl, trivial⟩ ⟨Nat.zero_le _, Gr.refl _, all_none⟩ ?_
  clear hp
  rintro i z h' hwf' ⟨hi, g2, hall⟩
  replace hy' := hy'.gr hwf1 g2
  replace hac := Sl.gr hac hwf1 g2
  replace hum := Sl.gr hum hwf1 g2
  replace hc := g2.at hwf1 hc
  repeat (first | refine zA ?_ | refine zB ?_ | refine zC ?_ | refine zD ?_ | refine zE ?_ | refine zF ?_ | refine zG rfl ?_ | refine zH ?_ | refine zI ?_ | refine zJ ?_ | refine zK ?_ | refine zL ?_ | refine zM ?_ | refine zN ?_ | refine zO ?_)
  repeat (first | refine zT rfl rfl rfl rfl rfl rfl (cbin_inc (by omega)) ?_ | refine zP rfl rfl rfl rfl rfl ?_ | refine zQ rfl rfl rfl ?_ | refine zR rfl rfl rfl rfl rfl (by first | assumption | exact cload_of (by assumption) rfl) ?_ | refine zS rfl rfl rfl rfl rfl rfl rfl rfl (by first | exact SlA.len (by assumption) rfl | exact Sl.map (by assumption) rfl | exact Sl.len (by assumption) rfl) ?_)
  refine pops.nil ?_
  repeat (first | refine zA ?_ | refine zB ?_ | refine zC ?_ | refine zD ?_ | refine zE ?_ | refine zF ?_ | refine zG rfl ?_ | refine zH ?_ | refine zI ?_ | refine zJ ?_ | refine zK ?_ | refine zL ?_ | refine zM ?_ | refine zN ?_ | refine zO ?_)
  refine pcond.d (p := (i : Int) < (m.length : Nat)) rfl (fun hlt => ?_) (fun hge => ?_)
  · obtain ⟨q, hq⟩ : ∃ q, m[i]? = some q := ⟨_, List.getElem?_eq_getElem (by omega)⟩
    obtain ⟨hq0, hq1⟩ := hm3 q (List.mem_of_getElem? hq)
    repeat (first | refine zA ?_ | refine zB ?_ | refine zC ?_ | refine zD ?_ | refine zE ?_ | refine zF ?_ | refine zG rfl ?_ | refine zH ?_ | refine zI ?_ | refine zJ ?_ | refine zK ?_ | refine zL ?_ | refine zM ?_ | refine zN ?_ | refine zO ?_)
    refine pops.atI (f := Value.int .i64) rfl rfl rfl rfl rfl rfl rfl hum hq fun p hp => ?_
    repeat (first | refine zT rfl rfl rfl rfl rfl rfl (cbin_inc (by omega)) ?_ | refine zP rfl rfl rfl rfl rfl ?_ | refine zQ rfl rfl rfl ?_ | refine zR rfl rfl rfl rfl rfl (by first | assumption | exact cload_of (by assumption) rfl) ?_ | refine zS rfl rfl rfl rfl rfl rfl rfl rfl (by first | exact SlA.len (by assumption) rfl | exact Sl.map (by assumption) rfl | exact Sl.len (by assumption) rfl) ?_)
    refine pops.nil ?_
    repeat (first | refine zA ?_ | refine zB ?_ | refine zC ?_ | refine zD ?_ | refine zE ?_ | refine zF ?_ | refine zG rfl ?_ | refine zH ?_ | refine zI ?_ | refine zJ ?_ | refine zK ?_ | refine zL ?_ | refine zM ?_ | refine zN ?_ | refine zO ?_)
    repeat (first | refine zT rfl rfl rfl rfl rfl rfl (cbin_inc (by omega)) ?_ | refine zP rfl rfl rfl rfl rfl ?_ | refine zQ rfl rfl rfl ?_ | refine zR rfl rfl rfl rfl rfl (by first | assumption | exact cload_of (by assumption) rfl) ?_ | refine zS rfl rfl rfl rfl rfl rfl rfl rfl (by first | exact SlA.len (by assumption) rfl | exact Sl.map (by assumption) rfl | exact Sl.len (by assumption) rfl) ?_)
    refine pops.atA rfl rfl rfl rfl rfl rfl rfl hy' hr1 fun p2 ur hp2 hur => ?_
    refine zR rfl rfl rfl rfl rfl (by first | assumption | exact cload_of (by assumption) rfl) ?_
    refine zP rfl rfl rfl rfl rfl ?_
    refine pops.callG rfl rfl rfl rfl rfl fn_contains rfl rfl rfl (contains_calls q hur) fun h3 hwf3 g3 => ?_
    replace hc := g3.at hwf' hc
    replace hac := Sl.gr hac hwf' g3
    cases hd : decide (q ∈ rm) with
    | true =>
      obtain ⟨k, rfl⟩ : ∃ k : Nat, q = k := Int.eq_ofNat_of_zero_le hq0
      have hact := act_ok hq0 hq1
      refine pops.nil ?_
      repeat (first | refine zA ?_ | refine zB ?_ | refine zC ?_ | refine zD ?_ | refine zE ?_ | refine zF ?_ | refine zG rfl ?_ | refine zH ?_ | refine zI ?_ | refine zJ ?_ | refine zK ?_ | refine zL ?_ | refine zM ?_ | refine zN ?_ | refine zO ?_)
      refine pcond.t rfl ?_
      repeat (first | refine zA ?_ | refine zB ?_ | refine zC ?_ | refine zD ?_ | refine zE ?_ | refine zF ?_ | refine zG rfl ?_ | refine zH ?_ | refine zI ?_ | refine zJ ?_ | refine zK ?_ | refine zL ?_ | refine zM ?_ | refine zN ?_ | refine zO ?_)
      repeat (first | refine zT rfl rfl rfl rfl rfl rfl (cbin_inc (by omega)) ?_ | refine zP rfl rfl rfl rfl rfl ?_ | refine zQ rfl rfl rfl ?_ | refine zR rfl rfl rfl rfl rfl (by first | assumption | exact cload_of (by assumption) rfl) ?_ | refine zS rfl rfl rfl rfl rfl rfl rfl rfl (by first | exact SlA.len (by assumption) rfl | exact Sl.map (by assumption) rfl | exact Sl.len (by assumption) rfl) ?_)
      refine pops.atI (i := k) (f := Value.int .i64) rfl rfl rfl rfl rfl rfl rfl hac hact fun p3 hp3 => ?_
      repeat (first | refine zT rfl rfl rfl rfl rfl rfl (cbin_inc (by omega)) ?_ | refine zP rfl rfl rfl rfl rfl ?_ | refine zQ rfl rfl rfl ?_ | refine zR rfl rfl rfl rfl rfl (by first | assumption | exact cload_of (by assumption) rfl) ?_ | refine zS rfl rfl rfl rfl rfl rfl rfl rfl (by first | exact SlA.len (by assumption) rfl | exact Sl.map (by assumption) rfl | exact Sl.len (by assumption) rfl) ?_)
      refine pops.nil ?_
      repeat (first | refine zA ?_ | refine zB ?_ | refine zC ?_ | refine zD ?_ | refine zE ?_ | refine zF ?_ | refine zG rfl ?_ | refine zH ?_ | refine zI ?_ | refine zJ ?_ | refine zK ?_ | refine zL ?_ | refine zM ?_ | refine zN ?_ | refine zO ?_)
      refine pleave.r rfl ?_
      refine ⟨?_, (g1.trans g2).trans g3⟩
      have : decS t s u = (actOf t k, (k : Int)) := by
        unfold decS
        rw [hm2, hr2, find_first hall hq hd]
      rw [this]
    | false =>
      refine pops.nil ?_
      repeat (first | refine zA ?_ | refine zB ?_ | refine zC ?_ | refine zD ?_ | refine zE ?_ | refine zF ?_ | refine zG rfl ?_ | refine zH ?_ | refine zI ?_ | refine zJ ?_ | refine zK ?_ | refine zL ?_ | refine zM ?_ | refine zN ?_ | refine zO ?_)
      refine pcond.f rfl ?_
      repeat (first | refine zA ?_ | refine zB ?_ | refine zC ?_ | refine zD ?_ | refine zE ?_ | refine zF ?_ | refine zG rfl ?_ | refine zH ?_ | refine zI ?_ | refine zJ ?_ | refine zK ?_ | refine zL ?_ | refine zM ?_ | refine zN ?_ | refine zO ?_)
      repeat (first | refine zT rfl rfl rfl rfl rfl rfl (cbin_inc (by omega)) ?_ | refine zP rfl rfl rfl rfl rfl ?_ | refine zQ rfl rfl rfl ?_ | refine zR rfl rfl rfl rfl rfl (by first | assumption | exact cload_of (by assumption) rfl) ?_ | refine zS rfl rfl rfl rfl rfl rfl rfl rfl (by first | exact SlA.len (by assumption) rfl | exact Sl.map (by assumption) rfl | exact Sl.len (by assumption) rfl) ?_)
      refine pops.nil ?_
      refine .n ⟨_, i + 1, rfl, ⟨rfl, rfl, rfl, rfl, rfl, trivial⟩, (by show m.length - (i + 1) < m.length - i; omega), by omega, g2.trans g3, all_next hall hq hd⟩
  · repeat (first | refine zA ?_ | refine zB ?_ | refine zC ?_ | refine zD ?_ | refine zE ?_ | refine zF ?_ | refine zG rfl ?_ | refine zH ?_ | refine zI ?_ | refine zJ ?_ | refine zK ?_ | refine zL ?_ | refine zM ?_ | refine zN ?_ | refine zO ?_)
    repeat (first | refine zT rfl rfl rfl rfl rfl rfl (cbin_inc (by omega)) ?_ | refine zP rfl rfl rfl rfl rfl ?_ | refine zQ rfl rfl rfl ?_ | refine zR rfl rfl rfl rfl rfl (by first | assumption | exact cload_of (by assumption) rfl) ?_ | refine zS rfl rfl rfl rfl rfl rfl rfl rfl (by first | exact SlA.len (by assumption) rfl | exact Sl.map (by assumption) rfl | exact Sl.len (by assumption) rfl) ?_)
    refine pops.nil ?_
    repeat (first | refine zA ?_ | refine zB ?_ | refine zC ?_ | refine zD ?_ | refine zE ?_ | refine zF ?_ | refine zG rfl ?_ | refine zH ?_ | refine zI ?_ | refine zJ ?_ | refine zK ?_ | refine zL ?_ | refine zM ?_ | refine zN ?_ | refine zO ?_)
    refine pleave.r rfl ?_
    refine ⟨?_, g1.trans g2⟩
    have : decS t s u = (2, -1) := by
      unfold decS
      rw [hm2, hr2, find_no (all_end hall (by omega))]
    rw [this]
theorem fn_Decide : tab.fn 24 = some Tryz.f24 := by kernel_rfl
theorem Decide_calls {v vl : Value} {t : TabD} {l : List Int} (q : Int) (hv : TabV tab ks h v t) (hl : SlI tab ks.int h vl l) (hlen : TextsLt t.classes) (hll : l.length ≤ 1000) : CalF (X w) 24 [v, vl, .int .i64 q] h fun r h' => r = .ret (.tuple #[.int .i64 (DecideR t l q).1, .int .i64 (DecideR t l q).2]) ∧ Gr h h' := by
  refine CalF.wf fun hwf => ?_
  have hV := hv
  obtain ⟨c, a, x, y, x', y', rfl, ho, hcl, hac, hx, hy, hx', hy'⟩ := hv
  simp only [Bool.and_eq_true] at ho
  clear hcl hac hx hy hx' hy'
  have llt := hl.lt
  have out : ¬ (0 ≤ q ∧ q ≤ (l.length : Int) ∧ UsableP t l) → DecideR t l q = (2, -1) := fun hn => by unfold DecideR; rw [tt_f hn]; rfl
  refine CalF.intro fn_Decide rfl (Nat.le_of_ble_eq_true rfl) ?_
  repeat (first | refine zA ?_ | refine zB ?_ | refine zC ?_ | refine zD ?_ | refine zE ?_ | refine zF ?_ | refine zG rfl ?_ | refine zH ?_ | refine zI ?_ | refine zJ ?_ | refine zK ?_ | refine zL ?_ | refine zM ?_ | refine zN ?_ | refine zO ?_)
  refine pops.box (cs := [c, a, x, y, x', y']) rfl rfl rfl rfl (by simp [ho]) rfl rfl hwf fun b h1 hb hwf1 g1 hc => ?_
  replace hV := hV.gr hwf g1
  replace hl := Sl.gr hl hwf g1
  refine zP rfl rfl rfl rfl rfl ?_
  refine zP rfl rfl rfl rfl rfl ?_
  refine pops.nil ?_
  repeat (first | refine zA ?_ | refine zB ?_ | refine zC ?_ | refine zD ?_ | refine zE ?_ | refine zF ?_ | refine zG rfl ?_ | refine zH ?_ | refine zI ?_ | refine zJ ?_ | refine zK ?_ | refine zL ?_ | refine zM ?_ | refine zN ?_ | refine zO ?_)
  repeat (first | refine zT rfl rfl rfl rfl rfl rfl (cbin_inc (by omega)) ?_ | refine zY rfl rfl rfl rfl rfl rfl ?_ | refine zQ rfl rfl rfl ?_ | refine zR rfl rfl rfl rfl rfl (by first | assumption | exact cload_of (by assumption) rfl) ?_ | refine zS rfl rfl rfl rfl rfl rfl rfl rfl (by first | exact SlA.len (by assumption) rfl | exact Sl.map (by assumption) rfl | exact Sl.len (by assumption) rfl) ?_)
  refine zZ rfl rfl rfl rfl rfl (fun q1 => ?_) (fun q1 => ?_)
  · repeat (first | refine zT rfl rfl rfl rfl rfl rfl (cbin_inc (by omega)) ?_ | refine zP rfl rfl rfl rfl rfl ?_ | refine zQ rfl rfl rfl ?_ | refine zR rfl rfl rfl rfl rfl (by first | assumption | exact cload_of (by assumption) rfl) ?_ | refine zS rfl rfl rfl rfl rfl rfl rfl rfl (by first | exact SlA.len (by assumption) rfl | exact Sl.map (by assumption) rfl | exact Sl.len (by assumption) rfl) ?_)
    refine pops.nil ?_
    repeat (first | refine zA ?_ | refine zB ?_ | refine zC ?_ | refine zD ?_ | refine zE ?_ | refine zF ?_ | refine zG rfl ?_ | refine zH ?_ | refine zI ?_ | refine zJ ?_ | refine zK ?_ | refine zL ?_ | refine zM ?_ | refine zN ?_ | refine zO ?_)
    refine pcond.t rfl ?_
    repeat (first | refine zA ?_ | refine zB ?_ | refine zC ?_ | refine zD ?_ | refine zE ?_ | refine zF ?_ | refine zG rfl ?_ | refine zH ?_ | refine zI ?_ | refine zJ ?_ | refine zK ?_ | refine zL ?_ | refine zM ?_ | refine zN ?_ | refine zO ?_)
    repeat (first | refine zT rfl rfl rfl rfl rfl rfl (cbin_inc (by omega)) ?_ | refine zP rfl rfl rfl rfl rfl ?_ | refine zQ rfl rfl rfl ?_ | refine zR rfl rfl rfl rfl rfl (by first | assumption | exact cload_of (by assumption) rfl) ?_ | refine zS rfl rfl rfl rfl rfl rfl rfl rfl (by first | exact SlA.len (by assumption) rfl | exact Sl.map (by assumption) rfl | exact Sl.len (by assumption) rfl) ?_)
    refine pops.nil ?_
    repeat (first | refine zA ?_ | refine zB ?_ | refine zC ?_ | refine zD ?_ | refine zE ?_ | refine zF ?_ | refine zG rfl ?_ | refine zH ?_ | refine zI ?_ | refine zJ ?_ | refine zK ?_ | refine zL ?_ | refine zM ?_ | refine zN ?_ | refine zO ?_)
    refine pleave.r rfl ?_
    simp at q1
    rw [out (by omega)]
    exact ⟨rfl, g1⟩
  repeat (first | refine zT rfl rfl rfl rfl rfl rfl (cbin_inc (by omega)) ?_ | refine zY rfl rfl rfl rfl rfl rfl ?_ | refine zQ rfl rfl rfl ?_ | refine zR rfl rfl rfl rfl rfl (by first | assumption | exact cload_of (by assumption) rfl) ?_ | refine zS rfl rfl rfl rfl rfl rfl rfl rfl (by first | exact SlA.len (by assumption) rfl | exact Sl.map (by assumption) rfl | exact Sl.len (by assumption) rfl) ?_)
  refine zZ rfl rfl rfl rfl rfl (fun q2 => ?_) (fun q2 => ?_)
  · repeat (first | refine zT rfl rfl rfl rfl rfl rfl (cbin_inc (by omega)) ?_ | refine zP rfl rfl rfl rfl rfl ?_ | refine zQ rfl rfl rfl ?_ | refine zR rfl rfl rfl rfl rfl (by first | assumption | exact cload_of (by assumption) rfl) ?_ | refine zS rfl rfl rfl rfl rfl rfl rfl rfl (by first | exact SlA.len (by assumption) rfl | exact Sl.map (by assumption) rfl | exact Sl.len (by assumption) rfl) ?_)
    refine pops.nil ?_
    repeat (first | refine zA ?_ | refine zB ?_ | refine zC ?_ | refine zD ?_ | refine zE ?_ | refine zF ?_ | refine zG rfl ?_ | refine zH ?_ | refine zI ?_ | refine zJ ?_ | refine zK ?_ | refine zL ?_ | refine zM ?_ | refine zN ?_ | refine zO ?_)
    refine pcond.t rfl ?_
    repeat (first | refine zA ?_ | refine zB ?_ | refine zC ?_ | refine zD ?_ | refine zE ?_ | refine zF ?_ | refine zG rfl ?_ | refine zH ?_ | refine zI ?_ | refine zJ ?_ | refine zK ?_ | refine zL ?_ | refine zM ?_ | refine zN ?_ | refine zO ?_)
    repeat (first | refine zT rfl rfl rfl rfl rfl rfl (cbin_inc (by omega)) ?_ | refine zP rfl rfl rfl rfl rfl ?_ | refine zQ rfl rfl rfl ?_ | refine zR rfl rfl rfl rfl rfl (by first | assumption | exact cload_of (by assumption) rfl) ?_ | refine zS rfl rfl rfl rfl rfl rfl rfl rfl (by first | exact SlA.len (by assumption) rfl | exact Sl.map (by assumption) rfl | exact Sl.len (by assumption) rfl) ?_)
    refine pops.nil ?_
    repeat (first | refine zA ?_ | refine zB ?_ | refine zC ?_ | refine zD ?_ | refine zE ?_ | refine zF ?_ | refine zG rfl ?_ | refine zH ?_ | refine zI ?_ | refine zJ ?_ | refine zK ?_ | refine zL ?_ | refine zM ?_ | refine zN ?_ | refine zO ?_)
    refine pleave.r rfl ?_
    simp at q2
    rw [out (by omega)]
    exact ⟨rfl, g1⟩
  repeat (first | refine zT rfl rfl rfl rfl rfl rfl (cbin_inc (by omega)) ?_ | refine zY rfl rfl rfl rfl rfl rfl ?_ | refine zQ rfl rfl rfl ?_ | refine zR rfl rfl rfl rfl rfl (by first | assumption | exact cload_of (by assumption) rfl) ?_ | refine zS rfl rfl rfl rfl rfl rfl rfl rfl (by first | exact SlA.len (by assumption) rfl | exact Sl.map (by assumption) rfl | exact Sl.len (by assumption) rfl) ?_)
  refine pops.callG rfl rfl rfl rfl rfl fn_usable rfl rfl rfl (usable_calls hV hl hlen) fun h2 hwf2 g2 => ?_
  replace hc := g2.at hwf1 hc
  replace hV := hV.gr hwf1 g2
  replace hl := Sl.gr hl hwf1 g2
  have g02 := g1.trans g2
  cases hU : tt (UsableP t l) with
  | false =>
    repeat (first | refine zT rfl rfl rfl rfl rfl rfl (cbin_inc (by omega)) ?_ | refine zP rfl rfl rfl rfl rfl ?_ | refine zQ rfl rfl rfl ?_ | refine zR rfl rfl rfl rfl rfl (by first | assumption | exact cload_of (by assumption) rfl) ?_ | refine zS rfl rfl rfl rfl rfl rfl rfl rfl (by first | exact SlA.len (by assumption) rfl | exact Sl.map (by assumption) rfl | exact Sl.len (by assumption) rfl) ?_)
    refine pops.nil ?_
    repeat (first | refine zA ?_ | refine zB ?_ | refine zC ?_ | refine zD ?_ | refine zE ?_ | refine zF ?_ | refine zG rfl ?_ | refine zH ?_ | refine zI ?_ | refine zJ ?_ | refine zK ?_ | refine zL ?_ | refine zM ?_ | refine zN ?_ | refine zO ?_)
    refine pcond.t rfl ?_
    repeat (first | refine zA ?_ | refine zB ?_ | refine zC ?_ | refine zD ?_ | refine zE ?_ | refine zF ?_ | refine zG rfl ?_ | refine zH ?_ | refine zI ?_ | refine zJ ?_ | refine zK ?_ | refine zL ?_ | refine zM ?_ | refine zN ?_ | refine zO ?_)
    repeat (first | refine zT rfl rfl rfl rfl rfl rfl (cbin_inc (by omega)) ?_ | refine zP rfl rfl rfl rfl rfl ?_ | refine zQ rfl rfl rfl ?_ | refine zR rfl rfl rfl rfl rfl (by first | assumption | exact cload_of (by assumption) rfl) ?_ | refine zS rfl rfl rfl rfl rfl rfl rfl rfl (by first | exact SlA.len (by assumption) rfl | exact Sl.map (by assumption) rfl | exact Sl.len (by assumption) rfl) ?_)
    refine pops.nil ?_
    repeat (first | refine zA ?_ | refine zB ?_ | refine zC ?_ | refine zD ?_ | refine zE ?_ | refine zF ?_ | refine zG rfl ?_ | refine zH ?_ | refine zI ?_ | refine zJ ?_ | refine zK ?_ | refine zL ?_ | refine zM ?_ | refine zN ?_ | refine zO ?_)
    refine pleave.r rfl ?_
    rw [out (fun hh => by rw [tt_t hh.2.2] at hU; cases hU)]
    exact ⟨rfl, g02⟩
  | true =>
  replace hU := tt_iff.1 hU
  simp at q1 q2
  obtain ⟨k, rfl⟩ : ∃ k : Nat, q = k := Int.eq_ofNat_of_zero_le q1
  have hk : k ≤ l.length := by omega
  have hres : DecideR t l k = decS t (st t.left.next l k) (rst t.right.next l (l.length - k)) := by
    unfold DecideR
    rw [tt_t (by exact ⟨by omega, by omega, hU⟩)]
    rfl
  repeat (first | refine zT rfl rfl rfl rfl rfl rfl (cbin_inc (by omega)) ?_ | refine zP rfl rfl rfl rfl rfl ?_ | refine zQ rfl rfl rfl ?_ | refine zR rfl rfl rfl rfl rfl (by first | assumption | exact cload_of (by assumption) rfl) ?_ | refine zS rfl rfl rfl rfl rfl rfl rfl rfl (by first | exact SlA.len (by assumption) rfl | exact Sl.map (by assumption) rfl | exact Sl.len (by assumption) rfl) ?_)
  refine pops.nil ?_
  repeat (first | refine zA ?_ | refine zB ?_ | refine zC ?_ | refine zD ?_ | refine zE ?_ | refine zF ?_ | refine zG rfl ?_ | refine zH ?_ | refine zI ?_ | refine zJ ?_ | refine zK ?_ | refine zL ?_ | refine zM ?_ | refine zN ?_ | refine zO ?_)
  refine pcond.f rfl ?_
  repeat (first | refine zA ?_ | refine zB ?_ | refine zC ?_ | refine zD ?_ | refine zE ?_ | refine zF ?_ | refine zG rfl ?_ | refine zH ?_ | refine zI ?_ | refine zJ ?_ | refine zK ?_ | refine zL ?_ | refine zM ?_ | refine zN ?_ | refine zO ?_)
  refine PG.start _ rfl rfl ?_
  repeat (first | refine zU (by decide +kernel) ?_ | refine zV (by decide +kernel) rfl rfl rfl rfl ?_ | refine zW (by decide +kernel) rfl rfl rfl rfl rfl (by first | assumption | exact cload_of (by assumption) rfl) ?_ | refine zX (by decide +kernel) rfl rfl rfl ?_)
  refine PG.nil ?_
  refine pd1.callR 3 rfl (by kernel_rfl) rfl rfl rfl rfl rfl fn_left rfl rfl rfl ((left_calls hV hl hU hll).monoW fun r h3 hwf3 hh => ?_)
  obtain ⟨⟨u1, rfl, hu1⟩, g3⟩ := hh
  replace hc := g3.at hwf2 hc
  replace hV := hV.gr hwf2 g3
  replace hl := Sl.gr hl hwf2 g3
  refine ⟨u1, rfl, _, by (repeat (first | exact Reck.nil | (apply Reck.dropI; decide +kernel) | (apply Reck.keep; rfl) | (apply Reck.load; rfl; rfl; first | assumption | exact cload_of (by assumption) rfl) | (apply Reck.same; rfl) | (apply Reck.inc; rfl; rfl; rfl; omega))), ?_⟩
  obtain ⟨p1, hp1, hq1⟩ := Sl.readM hu1 hwf3 (ts := 26) rfl (leftS_get hk) .i64
  have hq1' : cload (X w).T h3 3 p1 = some (.int .i64 (st t.left.next l k : Int)) := hq1 _ (Gr.refl _)
  repeat refine zU (by decide +kernel) ?_
  refine zV (by decide +kernel) rfl rfl rfl (hp1) ?_
  repeat (first | refine zU (by decide +kernel) ?_ | refine zV (by decide +kernel) rfl rfl rfl rfl ?_ | refine zW (by decide +kernel) rfl rfl rfl rfl rfl (by first | assumption | exact cload_of (by assumption) rfl) ?_ | refine zX (by decide +kernel) rfl rfl rfl ?_)
  refine PG.nil ?_
  refine pd1.callR 9 rfl (by kernel_rfl) rfl rfl rfl rfl rfl fn_right rfl rfl rfl ((right_calls hV hl hU hll).monoW fun r h4 hwf4 hh => ?_)
  obtain ⟨⟨u2, rfl, hu2⟩, g4⟩ := hh
  replace hc := g4.at hwf3 hc
  replace hV := hV.gr hwf3 g4
  replace hl := Sl.gr hl hwf3 g4
  have hq1' : cload (X w).T h4 3 p1 = some (.int .i64 (st t.left.next l k : Int)) := hq1 _ g4
  refine ⟨u2, rfl, _, by (repeat (first | exact Reck.nil | (apply Reck.dropI; decide +kernel) | (apply Reck.keep; rfl) | (apply Reck.load; rfl; rfl; first | assumption | exact cload_of (by assumption) rfl) | (apply Reck.same; rfl) | (apply Reck.inc; rfl; rfl; rfl; omega))), ?_⟩
  obtain ⟨p2, hp2, hq2⟩ := Sl.readM hu2 hwf4 (ts := 26) rfl (rightS_get hk) .i64
  have hq2' : cload (X w).T h4 3 p2 = some (.int .i64 (rst t.right.next l (l.length - k) : Int)) := hq2 _ (Gr.refl _)
  repeat refine zU (by decide +kernel) ?_
  refine zV (by decide +kernel) rfl rfl rfl (hp2) ?_
  repeat (first | refine zU (by decide +kernel) ?_ | refine zV (by decide +kernel) rfl rfl rfl rfl ?_ | refine zW (by decide +kernel) rfl rfl rfl rfl rfl (by first | assumption | exact cload_of (by assumption) rfl) ?_ | refine zX (by decide +kernel) rfl rfl rfl ?_)
  refine PG.nil ?_
  refine pd1.callG 13 rfl (by kernel_rfl) rfl rfl rfl rfl rfl fn_decided rfl rfl rfl (decided_calls hV hU.1 (st_ok hU.1.2.2.2.1 hU.2 k hk) (rst_ok hU.1.2.2.2.2 hU.2 (l.length - k) (by omega))) fun h5 hwf5 g5 => ?_
  replace hc := g5.at hwf4 hc
  refine ⟨_, by (repeat (first | exact Reck.nil | (apply Reck.dropI; decide +kernel) | (apply Reck.keep; rfl) | (apply Reck.load; rfl; rfl; first | assumption | exact cload_of (by assumption) rfl) | (apply Reck.same; rfl) | (apply Reck.inc; rfl; rfl; rfl; omega))), ?_⟩
  repeat (first | refine zU (by decide +kernel) ?_ | refine zV (by decide +kernel) rfl rfl rfl rfl ?_ | refine zW (by decide +kernel) rfl rfl rfl rfl rfl (by first | assumption | exact cload_of (by assumption) rfl) ?_ | refine zX (by decide +kernel) rfl rfl rfl ?_)
  refine PG.nil ?_
  refine pd1.fin (by kernel_rfl) (by kernel_rfl) ?_
  repeat (first | refine zA ?_ | refine zB ?_ | refine zC ?_ | refine zD ?_ | refine zE ?_ | refine zF ?_ | refine zG rfl ?_ | refine zH ?_ | refine zI ?_ | refine zJ ?_ | refine zK ?_ | refine zL ?_ | refine zM ?_ | refine zN ?_ | refine zO ?_)
  refine pleave.r rfl ?_
  rw [hres]
  exact ⟨rfl, (g02.trans g3).trans (g4.trans g5)⟩
end Go.Proofs.YtpcoponpfhnhlaaGreatDoor
set_option maxRecDepth 100000
set_option linter.unusedVariables false
set_option linter.unusedSimpArgs false
namespace Go.Proofs.YtpcoponpfhnhlaaGreatDoor
open Go.Cx
variable {w : World} {h : CH}
theorem fn_Actions : tab.fn 34 = some Tryz.f34 := by kernel_rfl
theorem Actions_calls {v vl : Value} {t : TabD} {l : List Int} (hv : TabV tab ks h v t) (hl : SlI tab ks.int h vl l) (hlen : TextsLt t.classes) (hll : l.length ≤ 1000) : CalF (X w) 34 [v, vl] h fun r h' => (∃ u, r = .ret u ∧ SlI tab ks.int h' u (ActionsR t l)) ∧ Gr h h' := by
  refine CalF.wf fun hwf => ?_
  have hV := hv
  obtain ⟨c, a, x, y, x', y', rfl, ho, hcl, hac, hx, hy, hx', hy'⟩ := hv
  simp only [Bool.and_eq_true] at ho
  clear hcl hac hx hy hx' hy'
  refine CalF.intro fn_Actions rfl (Nat.le_of_ble_eq_true rfl) ?_
  repeat (first | refine zA ?_ | refine zB ?_ | refine zC ?_ | refine zD ?_ | refine zE ?_ | refine zF ?_ | refine zG rfl ?_ | refine zH ?_ | refine zI ?_ | refine zJ ?_ | refine zK ?_ | refine zL ?_ | refine zM ?_ | refine zN ?_ | refine zO ?_)
  refine pops.box (cs := [c, a, x, y, x', y']) rfl rfl rfl rfl (by simp [ho]) rfl rfl hwf fun b h1 hb hwf1 g1 hc => ?_
  replace hV := hV.gr hwf g1
  replace hl := Sl.gr hl hwf g1
  refine zP rfl rfl rfl rfl rfl ?_
  refine pops.nil ?_
  repeat (first | refine zA ?_ | refine zB ?_ | refine zC ?_ | refine zD ?_ | refine zE ?_ | refine zF ?_ | refine zG rfl ?_ | refine zH ?_ | refine zI ?_ | refine zJ ?_ | refine zK ?_ | refine zL ?_ | refine zM ?_ | refine zN ?_ | refine zO ?_)
  repeat (first | refine zT rfl rfl rfl rfl rfl rfl (cbin_inc (by omega)) ?_ | refine zP rfl rfl rfl rfl rfl ?_ | refine zQ rfl rfl rfl ?_ | refine zR rfl rfl rfl rfl rfl (by first | assumption | exact cload_of (by assumption) rfl) ?_ | refine zS rfl rfl rfl rfl rfl rfl rfl rfl (by first | exact SlA.len (by assumption) rfl | exact Sl.map (by assumption) rfl | exact Sl.len (by assumption) rfl) ?_)
  refine pops.callG rfl rfl rfl rfl rfl fn_usable rfl rfl rfl (usable_calls hV hl hlen) fun h2 hwf2 g2 => ?_
  replace hc := g2.at hwf1 hc
  replace hV := hV.gr hwf1 g2
  replace hl := Sl.gr hl hwf1 g2
  have g02 := g1.trans g2
  unfold ActionsR
  cases hU : tt (UsableP t l) with
  | false =>
    repeat (first | refine zT rfl rfl rfl rfl rfl rfl (cbin_inc (by omega)) ?_ | refine zP rfl rfl rfl rfl rfl ?_ | refine zQ rfl rfl rfl ?_ | refine zR rfl rfl rfl rfl rfl (by first | assumption | exact cload_of (by assumption) rfl) ?_ | refine zS rfl rfl rfl rfl rfl rfl rfl rfl (by first | exact SlA.len (by assumption) rfl | exact Sl.map (by assumption) rfl | exact Sl.len (by assumption) rfl) ?_)
    refine pops.nil ?_
    repeat (first | refine zA ?_ | refine zB ?_ | refine zC ?_ | refine zD ?_ | refine zE ?_ | refine zF ?_ | refine zG rfl ?_ | refine zH ?_ | refine zI ?_ | refine zJ ?_ | refine zK ?_ | refine zL ?_ | refine zM ?_ | refine zN ?_ | refine zO ?_)
    refine pcond.t rfl ?_
    repeat (first | refine zA ?_ | refine zB ?_ | refine zC ?_ | refine zD ?_ | refine zE ?_ | refine zF ?_ | refine zG rfl ?_ | refine zH ?_ | refine zI ?_ | refine zJ ?_ | refine zK ?_ | refine zL ?_ | refine zM ?_ | refine zN ?_ | refine zO ?_)
    repeat (first | refine zT rfl rfl rfl rfl rfl rfl (cbin_inc (by omega)) ?_ | refine zP rfl rfl rfl rfl rfl ?_ | refine zQ rfl rfl rfl ?_ | refine zR rfl rfl rfl rfl rfl (by first | assumption | exact cload_of (by assumption) rfl) ?_ | refine zS rfl rfl rfl rfl rfl rfl rfl rfl (by first | exact SlA.len (by assumption) rfl | exact Sl.map (by assumption) rfl | exact Sl.len (by assumption) rfl) ?_)
    refine pops.nil ?_
    repeat (first | refine zA ?_ | refine zB ?_ | refine zC ?_ | refine zD ?_ | refine zE ?_ | refine zF ?_ | refine zG rfl ?_ | refine zH ?_ | refine zI ?_ | refine zJ ?_ | refine zK ?_ | refine zL ?_ | refine zM ?_ | refine zN ?_ | refine zO ?_)
    refine pleave.r rfl ?_
    exact ⟨⟨_, rfl, nil_ints⟩, g02⟩
  | true =>
  replace hU := tt_iff.1 hU
  repeat (first | refine zT rfl rfl rfl rfl rfl rfl (cbin_inc (by omega)) ?_ | refine zP rfl rfl rfl rfl rfl ?_ | refine zQ rfl rfl rfl ?_ | refine zR rfl rfl rfl rfl rfl (by first | assumption | exact cload_of (by assumption) rfl) ?_ | refine zS rfl rfl rfl rfl rfl rfl rfl rfl (by first | exact SlA.len (by assumption) rfl | exact Sl.map (by assumption) rfl | exact Sl.len (by assumption) rfl) ?_)
  refine pops.nil ?_
  repeat (first | refine zA ?_ | refine zB ?_ | refine zC ?_ | refine zD ?_ | refine zE ?_ | refine zF ?_ | refine zG rfl ?_ | refine zH ?_ | refine zI ?_ | refine zJ ?_ | refine zK ?_ | refine zL ?_ | refine zM ?_ | refine zN ?_ | refine zO ?_)
  refine pcond.f rfl ?_
  repeat (first | refine zA ?_ | refine zB ?_ | refine zC ?_ | refine zD ?_ | refine zE ?_ | refine zF ?_ | refine zG rfl ?_ | refine zH ?_ | refine zI ?_ | refine zJ ?_ | refine zK ?_ | refine zL ?_ | refine zM ?_ | refine zN ?_ | refine zO ?_)
  refine PG.start _ rfl rfl ?_
  repeat (first | refine zU (by decide +kernel) ?_ | refine zV (by decide +kernel) rfl rfl rfl rfl ?_ | refine zW (by decide +kernel) rfl rfl rfl rfl rfl (by first | assumption | exact cload_of (by assumption) rfl) ?_ | refine zX (by decide +kernel) rfl rfl rfl ?_)
  refine PG.nil ?_
  refine pd1.callR 2 rfl (by kernel_rfl) rfl rfl rfl rfl rfl fn_left rfl rfl rfl ((left_calls hV hl hU hll).monoW fun r h3 hwf3 hh => ?_)
  obtain ⟨⟨u1, rfl, hu1⟩, g3⟩ := hh
  replace hc := g3.at hwf2 hc
  replace hV := hV.gr hwf2 g3
  replace hl := Sl.gr hl hwf2 g3
  refine ⟨u1, rfl, _, by (repeat (first | exact Reck.nil | (apply Reck.dropI; decide +kernel) | (apply Reck.keep; rfl) | (apply Reck.load; rfl; rfl; first | assumption | exact cload_of (by assumption) rfl) | (apply Reck.same; rfl) | (apply Reck.inc; rfl; rfl; rfl; omega))), ?_⟩
  repeat (first | refine zU (by decide +kernel) ?_ | refine zV (by decide +kernel) rfl rfl rfl rfl ?_ | refine zW (by decide +kernel) rfl rfl rfl rfl rfl (by first | assumption | exact cload_of (by assumption) rfl) ?_ | refine zX (by decide +kernel) rfl rfl rfl ?_)
  refine PG.nil ?_
  refine pd1.callR 5 rfl (by kernel_rfl) rfl rfl rfl rfl rfl fn_right rfl rfl rfl ((right_calls hV hl hU hll).monoW fun r h4 hwf4 hh => ?_)
  obtain ⟨⟨u2, rfl, hu2⟩, g4⟩ := hh
  replace hc := g4.at hwf3 hc
  replace hV := hV.gr hwf3 g4
  replace hu1 := Sl.gr hu1 hwf3 g4
  refine ⟨u2, rfl, _, by (repeat (first | exact Reck.nil | (apply Reck.dropI; decide +kernel) | (apply Reck.keep; rfl) | (apply Reck.load; rfl; rfl; first | assumption | exact cload_of (by assumption) rfl) | (apply Reck.same; rfl) | (apply Reck.inc; rfl; rfl; rfl; omega))), ?_⟩
  repeat (first | refine zU (by decide +kernel) ?_ | refine zV (by decide +kernel) rfl rfl rfl rfl ?_ | refine zW (by decide +kernel) rfl rfl rfl rfl rfl (by first | assumption | exact cload_of (by assumption) rfl) ?_ | refine zX (by decide +kernel) rfl rfl rfl ?_)
  refine PG.nil ?_
  refine pd1.fin (by kernel_rfl) (by kernel_rfl) ?_
  have g04 := (g02.trans g3).trans g4
  clear g1 g2 g3 g4 g02 hwf1 hwf2 hwf3
  repeat (first | refine zA ?_ | refine zB ?_ | refine zC ?_ | refine zD ?_ | refine zE ?_ | refine zF ?_ | refine zG rfl ?_ | refine zH ?_ | refine zI ?_ | refine zJ ?_ | refine zK ?_ | refine zL ?_ | refine zM ?_ | refine zN ?_ | refine zO ?_)
  repeat (first | refine zT rfl rfl rfl rfl rfl rfl (cbin_inc (by omega)) ?_ | refine zP rfl rfl rfl rfl rfl ?_ | refine zQ rfl rfl rfl ?_ | refine zR rfl rfl rfl rfl rfl (by first | assumption | exact cload_of (by assumption) rfl) ?_ | refine zS rfl rfl rfl rfl rfl rfl rfl rfl (by first | exact SlA.len (by assumption) rfl | exact Sl.map (by assumption) rfl | exact Sl.len (by assumption) rfl) ?_)
  refine pops.nil ?_
  repeat (first | refine zA ?_ | refine zB ?_ | refine zC ?_ | refine zD ?_ | refine zE ?_ | refine zF ?_ | refine zG rfl ?_ | refine zH ?_ | refine zI ?_ | refine zJ ?_ | refine zK ?_ | refine zL ?_ | refine zM ?_ | refine zN ?_ | refine zO ?_)
  repeat (first | refine zT rfl rfl rfl rfl rfl rfl (cbin_inc (by omega)) ?_ | refine zP rfl rfl rfl rfl rfl ?_ | refine zQ rfl rfl rfl ?_ | refine zR rfl rfl rfl rfl rfl (by first | assumption | exact cload_of (by assumption) rfl) ?_ | refine zS rfl rfl rfl rfl rfl rfl rfl rfl (by first | exact SlA.len (by assumption) rfl | exact Sl.map (by assumption) rfl | exact Sl.len (by assumption) rfl) ?_)
  refine pops.nil ?_
  repeat (first | refine zA ?_ | refine zB ?_ | refine zC ?_ | refine zD ?_ | refine zE ?_ | refine zF ?_ | refine zG rfl ?_ | refine zH ?_ | refine zI ?_ | refine zJ ?_ | refine zK ?_ | refine zL ?_ | refine zM ?_ | refine zN ?_ | refine zO ?_)
  refine Loops.ind 6 (fun s : Nat × Value => [(2, .pointer (some ⟨b, 0, none⟩)), (6, u2), (7, s.2), (22, u1), (23, .int .i64 ((leftS t l).length : Nat)), (24, .int .i64 (s.1 : Nat))])
    (fun s h' => s.1 ≤ l.length + 1 ∧ Gr h4 h' ∧ ∃ b', h4.n ≤ b' ∧ Own h' s.2 b' ((List.range s.1).map fun i => Value.int .i64 (decS t (st t.left.next l i) (rst t.right.next l (l.length - i))).1))
    (fun s => l.length + 1 - s.1) (0, .slice none 0 0) (by decide) ⟨rfl, rfl, rfl, rfl, rfl, rfl, trivial⟩ ⟨Nat.zero_le _, Gr.refl _, h4.n, Nat.le_refl _, .inl ⟨rfl, rfl⟩⟩ ?_
  rintro ⟨i, vo⟩ z h' hwf' ⟨hi, g2, b', hb', hown⟩
  simp only at hi hown hb'
  replace hc := g2.at hwf4 hc
  replace hV := hV.gr hwf4 g2
  replace hu1 := Sl.gr hu1 hwf4 g2
  replace hu2 := Sl.gr hu2 hwf4 g2
  have hll1 := leftS_length t l
  repeat (first | refine zA ?_ | refine zB ?_ | refine zC ?_ | refine zD ?_ | refine zE ?_ | refine zF ?_ | refine zG rfl ?_ | refine zH ?_ | refine zI ?_ | refine zJ ?_ | refine zK ?_ | refine zL ?_ | refine zM ?_ | refine zN ?_ | refine zO ?_)
  repeat (first | refine zT rfl rfl rfl rfl rfl rfl (cbin_inc (by omega)) ?_ | refine zP rfl rfl rfl rfl rfl ?_ | refine zQ rfl rfl rfl ?_ | refine zR rfl rfl rfl rfl rfl (by first | assumption | exact cload_of (by assumption) rfl) ?_ | refine zS rfl rfl rfl rfl rfl rfl rfl rfl (by first | exact SlA.len (by assumption) rfl | exact Sl.map (by assumption) rfl | exact Sl.len (by assumption) rfl) ?_)
  refine pops.nil ?_
  repeat (first | refine zA ?_ | refine zB ?_ | refine zC ?_ | refine zD ?_ | refine zE ?_ | refine zF ?_ | refine zG rfl ?_ | refine zH ?_ | refine zI ?_ | refine zJ ?_ | refine zK ?_ | refine zL ?_ | refine zM ?_ | refine zN ?_ | refine zO ?_)
  refine pcond.d (p := (i : Int) < ((leftS t l).length : Nat)) rfl (fun hlt => ?_) (fun hge => ?_)
  · have hlt : i ≤ l.length := by omega
    obtain ⟨p2, hp2, hq2⟩ := Sl.readM hu2 hwf' (ts := 26) rfl (rightS_get hlt) .i64
    have hq2' : cload (X w).T h' 3 p2 = some (.int .i64 (rst t.right.next l (l.length - i) : Int)) := hq2 _ (Gr.refl _)
    repeat (first | refine zA ?_ | refine zB ?_ | refine zC ?_ | refine zD ?_ | refine zE ?_ | refine zF ?_ | refine zG rfl ?_ | refine zH ?_ | refine zI ?_ | refine zJ ?_ | refine zK ?_ | refine zL ?_ | refine zM ?_ | refine zN ?_ | refine zO ?_)
    refine zP rfl rfl rfl rfl rfl ?_
    refine pops.atI (f := Value.int .i64) rfl rfl rfl rfl rfl rfl rfl hu1 (leftS_get hlt) fun p hp => ?_
    repeat (first | refine zT rfl rfl rfl rfl rfl rfl (cbin_inc (by omega)) ?_ | refine zP rfl rfl rfl rfl rfl ?_ | refine zQ rfl rfl rfl ?_ | refine zR rfl rfl rfl rfl rfl (by first | assumption | exact cload_of (by assumption) rfl) ?_ | refine zS rfl rfl rfl rfl rfl rfl rfl rfl (by first | exact SlA.len (by assumption) rfl | exact Sl.map (by assumption) rfl | exact Sl.len (by assumption) rfl) ?_)
    refine pops.nil ?_
    repeat (first | refine zA ?_ | refine zB ?_ | refine zC ?_ | refine zD ?_ | refine zE ?_ | refine zF ?_ | refine zG rfl ?_ | refine zH ?_ | refine zI ?_ | refine zJ ?_ | refine zK ?_ | refine zL ?_ | refine zM ?_ | refine zN ?_ | refine zO ?_)
    refine PG.start _ rfl rfl ?_
    refine zW (by decide +kernel) rfl rfl rfl rfl rfl (by first | assumption | exact cload_of (by assumption) rfl) ?_
    refine zV (by decide +kernel) rfl rfl rfl rfl ?_
    refine zV (by decide +kernel) rfl rfl rfl rfl ?_
    refine zV (by decide +kernel) rfl rfl rfl rfl ?_
    refine zV (by decide +kernel) rfl rfl rfl (hp2) ?_
    repeat (first | refine zU (by decide +kernel) ?_ | refine zV (by decide +kernel) rfl rfl rfl rfl ?_ | refine zW (by decide +kernel) rfl rfl rfl rfl rfl (by first | assumption | exact cload_of (by assumption) rfl) ?_ | refine zX (by decide +kernel) rfl rfl rfl ?_)
    refine PG.nil ?_
    refine pd1.callG 6 rfl (by kernel_rfl) rfl rfl rfl rfl rfl fn_decided rfl rfl rfl (decided_calls hV hU.1 (st_ok hU.1.2.2.2.1 hU.2 i hlt) (rst_ok hU.1.2.2.2.2 hU.2 (l.length - i) (by omega))) fun h5 hwf5 g5 => ?_
    replace hc := g5.at hwf' hc
    refine ⟨_, by (repeat (first | exact Reck.nil | (apply Reck.dropI; decide +kernel) | (apply Reck.keep; rfl) | (apply Reck.load; rfl; rfl; first | assumption | exact cload_of (by assumption) rfl) | (apply Reck.same; rfl) | (apply Reck.inc; rfl; rfl; rfl; omega))), ?_⟩
    repeat (first | refine zU (by decide +kernel) ?_ | refine zV (by decide +kernel) rfl rfl rfl rfl ?_ | refine zW (by decide +kernel) rfl rfl rfl rfl rfl (by first | assumption | exact cload_of (by assumption) rfl) ?_ | refine zX (by decide +kernel) rfl rfl rfl ?_)
    refine PG.nil ?_
    refine pd1.fin (by kernel_rfl) (by kernel_rfl) ?_
    repeat (first | refine zA ?_ | refine zB ?_ | refine zC ?_ | refine zD ?_ | refine zE ?_ | refine zF ?_ | refine zG rfl ?_ | refine zH ?_ | refine zI ?_ | refine zJ ?_ | refine zK ?_ | refine zL ?_ | refine zM ?_ | refine zN ?_ | refine zO ?_)
    refine zP rfl rfl rfl rfl rfl ?_
    refine zP rfl rfl rfl rfl rfl ?_
    refine pops.buildSlice (cs := [.int .i64 (decS t (st t.left.next l i) (rst t.right.next l (l.length - i))).1]) rfl rfl rfl rfl rfl hwf5 fun b1 h6 hb1 hwf6 g6 hc6 => ?_
    refine pops.append1 rfl rfl rfl rfl rfl rfl rfl rfl rfl rfl rfl rfl rfl rfl rfl rfl rfl hwf6 (hown.gr hwf' (g5.trans g6)) rfl hc6 (by simp; omega) fun v' b2 h7 hwf7 ch hb2 hown7 => ?_
    have g7 : Gr h4 h7 := ((g2.trans g5).trans g6).chg hb' ch
    repeat (first | refine zT rfl rfl rfl rfl rfl rfl (cbin_inc (by omega)) ?_ | refine zP rfl rfl rfl rfl rfl ?_ | refine zQ rfl rfl rfl ?_ | refine zR rfl rfl rfl rfl rfl (by first | assumption | exact cload_of (by assumption) rfl) ?_ | refine zS rfl rfl rfl rfl rfl rfl rfl rfl (by first | exact SlA.len (by assumption) rfl | exact Sl.map (by assumption) rfl | exact Sl.len (by assumption) rfl) ?_)
    refine pops.nil ?_
    repeat (first | refine zA ?_ | refine zB ?_ | refine zC ?_ | refine zD ?_ | refine zE ?_ | refine zF ?_ | refine zG rfl ?_ | refine zH ?_ | refine zI ?_ | refine zJ ?_ | refine zK ?_ | refine zL ?_ | refine zM ?_ | refine zN ?_ | refine zO ?_)
    repeat (first | refine zT rfl rfl rfl rfl rfl rfl (cbin_inc (by omega)) ?_ | refine zP rfl rfl rfl rfl rfl ?_ | refine zQ rfl rfl rfl ?_ | refine zR rfl rfl rfl rfl rfl (by first | assumption | exact cload_of (by assumption) rfl) ?_ | refine zS rfl rfl rfl rfl rfl rfl rfl rfl (by first | exact SlA.len (by assumption) rfl | exact Sl.map (by assumption) rfl | exact Sl.len (by assumption) rfl) ?_)
    refine pops.nil ?_
    refine .n ⟨_, (i + 1, v'), rfl, ⟨rfl, rfl, rfl, rfl, rfl, rfl, trivial⟩, (by show l.length + 1 - (i + 1) < l.length + 1 - i; omega), (by show i + 1 ≤ l.length + 1; omega), g7, b2, Nat.le_trans ((g2.trans g5).trans g6).n hb2, ?_⟩
    show Own h7 v' b2 ((List.range (i + 1)).map _)
    rw [List.range_succ, List.map_append]
    exact hown7
  · repeat (first | refine zA ?_ | refine zB ?_ | refine zC ?_ | refine zD ?_ | refine zE ?_ | refine zF ?_ | refine zG rfl ?_ | refine zH ?_ | refine zI ?_ | refine zJ ?_ | refine zK ?_ | refine zL ?_ | refine zM ?_ | refine zN ?_ | refine zO ?_)
    have hi' : i = l.length + 1 := by omega
    subst hi'
    repeat (first | refine zT rfl rfl rfl rfl rfl rfl (cbin_inc (by omega)) ?_ | refine zP rfl rfl rfl rfl rfl ?_ | refine zQ rfl rfl rfl ?_ | refine zR rfl rfl rfl rfl rfl (by first | assumption | exact cload_of (by assumption) rfl) ?_ | refine zS rfl rfl rfl rfl rfl rfl rfl rfl (by first | exact SlA.len (by assumption) rfl | exact Sl.map (by assumption) rfl | exact Sl.len (by assumption) rfl) ?_)
    refine pops.nil ?_
    repeat (first | refine zA ?_ | refine zB ?_ | refine zC ?_ | refine zD ?_ | refine zE ?_ | refine zF ?_ | refine zG rfl ?_ | refine zH ?_ | refine zI ?_ | refine zJ ?_ | refine zK ?_ | refine zL ?_ | refine zM ?_ | refine zN ?_ | refine zO ?_)
    refine pleave.r rfl ?_
    refine ⟨⟨vo, rfl, ?_⟩, g04.trans g2⟩
    show Sl _ _ _ _ (List.map _ (List.map _ _))
    rw [List.map_map]
    exact hown.sl rfl rfl rfl (by simp; omega)
end Go.Proofs.YtpcoponpfhnhlaaGreatDoor