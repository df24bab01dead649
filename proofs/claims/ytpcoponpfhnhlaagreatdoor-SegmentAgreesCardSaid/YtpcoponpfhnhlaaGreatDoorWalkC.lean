/- Walks through the functions that the statement reaches, and the statement. Conditions: none. -/
import Derived.Test.YtpcoponpfhnhlaaGreatDoorWalkB
import Derived.Test.YtpcoponpfhnhlaaGreatDoorCxE
import Derived.Test.YtpcoponpfhnhlaaGreatDoorWalkA
set_option maxRecDepth 100000
set_option linter.unusedVariables false
set_option linter.unusedSimpArgs false
namespace Go.Proofs.YtpcoponpfhnhlaaGreatDoor
open Go.Cx
variable {w : World} {h : CH}
end Go.Proofs.YtpcoponpfhnhlaaGreatDoor
set_option maxRecDepth 100000
set_option linter.unusedVariables false
set_option linter.unusedSimpArgs false
namespace Go.Proofs.YtpcoponpfhnhlaaGreatDoor
open Go.Cx
variable {w : World} {h : CH}
end Go.Proofs.YtpcoponpfhnhlaaGreatDoor
set_option maxRecDepth 100000
set_option linter.unusedVariables false
set_option linter.unusedSimpArgs false
namespace Go.Proofs.YtpcoponpfhnhlaaGreatDoor
open Go.Cx
variable {w : World} {h : CH}
end Go.Proofs.YtpcoponpfhnhlaaGreatDoor
set_option maxRecDepth 100000
set_option linter.unusedVariables false
set_option linter.unusedSimpArgs false
namespace Go.Proofs.YtpcoponpfhnhlaaGreatDoor
open Go.Cx
variable {w : World} {h : CH}
theorem fn_named10c : tab.fn 103 = some Tryz.f103 := by kernel_rfl
theorem named10c_calls (c : Int) : CalF (X w) 103 [.int .i32 c] h fun r h' => r = .ret (.bool (!letterB c)) ∧ Gr h h' := by
  refine CalF.intro fn_named10c rfl (Nat.le_of_ble_eq_true rfl) ?_
  repeat (first | refine zA ?_ | refine zB ?_ | refine zC ?_ | refine zD ?_ | refine zE ?_ | refine zF ?_ | refine zG rfl ?_ | refine zH ?_ | refine zI ?_ | refine zJ ?_ | refine zK ?_ | refine zL ?_ | refine zM ?_ | refine zN ?_ | refine zO ?_)
  refine zP rfl rfl rfl rfl rfl ?_
  refine pops.nil ?_
  repeat (first | refine zA ?_ | refine zB ?_ | refine zC ?_ | refine zD ?_ | refine zE ?_ | refine zF ?_ | refine zG rfl ?_ | refine zH ?_ | refine zI ?_ | refine zJ ?_ | refine zK ?_ | refine zL ?_ | refine zM ?_ | refine zN ?_ | refine zO ?_)
  repeat' (first | refine zZ rfl rfl rfl rfl rfl (fun _ => ?_) (fun _ => ?_) | refine zP rfl rfl rfl rfl rfl ?_ | refine zQ rfl rfl rfl ?_)
  all_goals (refine pops.nil ?_)
  all_goals (repeat (first | refine zA ?_ | refine zB ?_ | refine zC ?_ | refine zD ?_ | refine zE ?_ | refine zF ?_ | refine zG rfl ?_ | refine zH ?_ | refine zI ?_ | refine zJ ?_ | refine zK ?_ | refine zL ?_ | refine zM ?_ | refine zN ?_ | refine zO ?_))
  all_goals (refine pleave.r rfl ?_)
  all_goals (refine ⟨?_, Gr.refl h⟩)
  all_goals (congr 2; simp_all [letterB]; try omega)
theorem fn_indexFuncS : tab.fn 152 = some Tryz.f152 := by kernel_rfl
theorem indexFuncS_calls {s : ByteArray} {f : FuncId} {fn : Func} {q : Int → Bool} (hf : tab.fn f = some fn) (hq : ∀ c : Int, 128 ≤ c → q c = true) (hl : s.data.toList.length < 9223372036854775808)
    (hp : ∀ (c : Int) (h' : CH), CalF (X w) f [.int .i32 c] h' fun r h'' => r = .ret (.bool (q c)) ∧ Gr h' h'') :
    CalF (X w) 152 [.string s, .func (.func f) #[] #[], .bool true] h fun r h' => (∃ z : Int, r = .ret (.int .i64 z) ∧ decide (0 ≤ z) = !(s.data.toList.all fun c => !q (c.toNat : Int))) ∧ Gr h h' := by
  refine CalF.wf fun hwf => ?_
  refine CalF.intro fn_indexFuncS rfl (Nat.le_of_ble_eq_true rfl) ?_
  repeat (first | refine zA ?_ | refine zB ?_ | refine zC ?_ | refine zD ?_ | refine zE ?_ | refine zF ?_ | refine zG rfl ?_ | refine zH ?_ | refine zI ?_ | refine zJ ?_ | refine zK ?_ | refine zL ?_ | refine zM ?_ | refine zN ?_ | refine zO ?_)
  refine zP rfl rfl rfl rfl rfl ?_
  refine pops.nil ?_
  repeat (first | refine zA ?_ | refine zB ?_ | refine zC ?_ | refine zD ?_ | refine zE ?_ | refine zF ?_ | refine zG rfl ?_ | refine zH ?_ | refine zI ?_ | refine zJ ?_ | refine zK ?_ | refine zL ?_ | refine zM ?_ | refine zN ?_ | refine zO ?_)
  refine zP rfl rfl rfl rfl rfl ?_
  refine pops.range rfl rfl rfl rfl rfl rfl hwf fun b h1 hb hwf1 g1 hg => ?_
  refine pops.nil ?_
  repeat (first | refine zA ?_ | refine zB ?_ | refine zC ?_ | refine zD ?_ | refine zE ?_ | refine zF ?_ | refine zG rfl ?_ | refine zH ?_ | refine zI ?_ | refine zJ ?_ | refine zK ?_ | refine zL ?_ | refine zM ?_ | refine zN ?_ | refine zO ?_)
  refine Loops.ind 5 (fun i : Nat => [(1, .func (.func f) #[] #[]), (2, .bool true), (10, .pointer (some ⟨b, 0, none⟩))]) (fun i h' => i ≤ s.data.toList.length ∧ Gr h h' ∧ h'.get b = some (.iter s i) ∧ ∀ (j : Nat) c, j < i → s.data.toList[j]? = some c → (!q (c.toNat : Int)) = true) (fun i => s.data.toList.length - i) 0 (by decide) ⟨rfl, rfl, rfl, trivial⟩ ⟨Nat.zero_le _, g1, hg, all_none⟩ ?_
  clear hg
  rintro i z h' hwf' ⟨hi, g, hg, hall⟩
  repeat (first | refine zA ?_ | refine zB ?_ | refine zC ?_ | refine zD ?_ | refine zE ?_ | refine zF ?_ | refine zG rfl ?_ | refine zH ?_ | refine zI ?_ | refine zJ ?_ | refine zK ?_ | refine zL ?_ | refine zM ?_ | refine zN ?_ | refine zO ?_)
  rcases Nat.lt_or_ge i s.data.toList.length with hlt | hge
  · obtain ⟨c, hc⟩ : ∃ c, s.data.toList[i]? = some c := ⟨_, List.getElem?_eq_getElem hlt⟩
    rcases Nat.lt_or_ge c.toNat 128 with ha | ha
    · refine pops.nextA rfl rfl rfl rfl rfl hg hc ha hwf' fun h2 hwf2 u2 hg2 => ?_
      have g2 := g.upd hb u2
      refine zP rfl rfl rfl rfl rfl ?_
      refine pops.nil ?_
      repeat (first | refine zA ?_ | refine zB ?_ | refine zC ?_ | refine zD ?_ | refine zE ?_ | refine zF ?_ | refine zG rfl ?_ | refine zH ?_ | refine zI ?_ | refine zJ ?_ | refine zK ?_ | refine zL ?_ | refine zM ?_ | refine zN ?_ | refine zO ?_)
      refine pcond.t rfl ?_
      repeat (first | refine zA ?_ | refine zB ?_ | refine zC ?_ | refine zD ?_ | refine zE ?_ | refine zF ?_ | refine zG rfl ?_ | refine zH ?_ | refine zI ?_ | refine zJ ?_ | refine zK ?_ | refine zL ?_ | refine zM ?_ | refine zN ?_ | refine zO ?_)
      repeat (first | refine zT rfl rfl rfl rfl rfl rfl (cbin_inc (by omega)) ?_ | refine zP rfl rfl rfl rfl rfl ?_ | refine zQ rfl rfl rfl ?_ | refine zR rfl rfl rfl rfl rfl (by first | assumption | exact cload_of (by assumption) rfl) ?_ | refine zS rfl rfl rfl rfl rfl rfl rfl rfl (by first | exact SlA.len (by assumption) rfl | exact Sl.map (by assumption) rfl | exact Sl.len (by assumption) rfl) ?_)
      refine pops.nil ?_
      repeat (first | refine zA ?_ | refine zB ?_ | refine zC ?_ | refine zD ?_ | refine zE ?_ | refine zF ?_ | refine zG rfl ?_ | refine zH ?_ | refine zI ?_ | refine zJ ?_ | refine zK ?_ | refine zL ?_ | refine zM ?_ | refine zN ?_ | refine zO ?_)
      refine zP rfl rfl rfl rfl rfl ?_
      refine zP rfl rfl rfl rfl rfl ?_
      refine pops.callG rfl rfl rfl rfl rfl hf rfl rfl rfl (hp _ h2) fun h3 hwf3 g3 => ?_
      cases hqc : q (c.toNat : Int) with
      | true =>
        repeat (first | refine zT rfl rfl rfl rfl rfl rfl (cbin_inc (by omega)) ?_ | refine zP rfl rfl rfl rfl rfl ?_ | refine zQ rfl rfl rfl ?_ | refine zR rfl rfl rfl rfl rfl (by first | assumption | exact cload_of (by assumption) rfl) ?_ | refine zS rfl rfl rfl rfl rfl rfl rfl rfl (by first | exact SlA.len (by assumption) rfl | exact Sl.map (by assumption) rfl | exact Sl.len (by assumption) rfl) ?_)
        refine pops.nil ?_
        repeat (first | refine zA ?_ | refine zB ?_ | refine zC ?_ | refine zD ?_ | refine zE ?_ | refine zF ?_ | refine zG rfl ?_ | refine zH ?_ | refine zI ?_ | refine zJ ?_ | refine zK ?_ | refine zL ?_ | refine zM ?_ | refine zN ?_ | refine zO ?_)
        refine pcond.t rfl ?_
        repeat (first | refine zA ?_ | refine zB ?_ | refine zC ?_ | refine zD ?_ | refine zE ?_ | refine zF ?_ | refine zG rfl ?_ | refine zH ?_ | refine zI ?_ | refine zJ ?_ | refine zK ?_ | refine zL ?_ | refine zM ?_ | refine zN ?_ | refine zO ?_)
        repeat (first | refine zT rfl rfl rfl rfl rfl rfl (cbin_inc (by omega)) ?_ | refine zP rfl rfl rfl rfl rfl ?_ | refine zQ rfl rfl rfl ?_ | refine zR rfl rfl rfl rfl rfl (by first | assumption | exact cload_of (by assumption) rfl) ?_ | refine zS rfl rfl rfl rfl rfl rfl rfl rfl (by first | exact SlA.len (by assumption) rfl | exact Sl.map (by assumption) rfl | exact Sl.len (by assumption) rfl) ?_)
        refine pops.nil ?_
        repeat (first | refine zA ?_ | refine zB ?_ | refine zC ?_ | refine zD ?_ | refine zE ?_ | refine zF ?_ | refine zG rfl ?_ | refine zH ?_ | refine zI ?_ | refine zJ ?_ | refine zK ?_ | refine zL ?_ | refine zM ?_ | refine zN ?_ | refine zO ?_)
        refine pleave.r rfl ?_
        refine ⟨⟨_, rfl, ?_⟩, g2.trans g3⟩
        have : (s.data.toList.all fun c => !q (c.toNat : Int)) = false := by rw [List.all_eq_false]; exact ⟨c, List.mem_of_getElem? hc, by simp [hqc]⟩
        rw [this]
        exact decide_eq_true (by omega)
      | false =>
        repeat (first | refine zT rfl rfl rfl rfl rfl rfl (cbin_inc (by omega)) ?_ | refine zP rfl rfl rfl rfl rfl ?_ | refine zQ rfl rfl rfl ?_ | refine zR rfl rfl rfl rfl rfl (by first | assumption | exact cload_of (by assumption) rfl) ?_ | refine zS rfl rfl rfl rfl rfl rfl rfl rfl (by first | exact SlA.len (by assumption) rfl | exact Sl.map (by assumption) rfl | exact Sl.len (by assumption) rfl) ?_)
        refine pops.nil ?_
        repeat (first | refine zA ?_ | refine zB ?_ | refine zC ?_ | refine zD ?_ | refine zE ?_ | refine zF ?_ | refine zG rfl ?_ | refine zH ?_ | refine zI ?_ | refine zJ ?_ | refine zK ?_ | refine zL ?_ | refine zM ?_ | refine zN ?_ | refine zO ?_)
        refine pcond.f rfl ?_
        repeat (first | refine zA ?_ | refine zB ?_ | refine zC ?_ | refine zD ?_ | refine zE ?_ | refine zF ?_ | refine zG rfl ?_ | refine zH ?_ | refine zI ?_ | refine zJ ?_ | refine zK ?_ | refine zL ?_ | refine zM ?_ | refine zN ?_ | refine zO ?_)
        refine ⟨_, i + 1, rfl, ⟨rfl, rfl, rfl, trivial⟩, (by show s.data.toList.length - (i + 1) < s.data.toList.length - i; omega), by omega, g2.trans g3, g3.at hwf2 hg2, all_next hall hc (by rw [hqc]; rfl)⟩
    · refine pops.nextU rfl rfl rfl rfl rfl hg hc ha hwf' fun h2 p2 hwf2 u2 hg2 => ?_
      have g2 := g.upd hb u2
      have hd := decode_big hc ha
      refine zP rfl rfl rfl rfl rfl ?_
      refine pops.nil ?_
      repeat (first | refine zA ?_ | refine zB ?_ | refine zC ?_ | refine zD ?_ | refine zE ?_ | refine zF ?_ | refine zG rfl ?_ | refine zH ?_ | refine zI ?_ | refine zJ ?_ | refine zK ?_ | refine zL ?_ | refine zM ?_ | refine zN ?_ | refine zO ?_)
      refine pcond.t rfl ?_
      repeat (first | refine zA ?_ | refine zB ?_ | refine zC ?_ | refine zD ?_ | refine zE ?_ | refine zF ?_ | refine zG rfl ?_ | refine zH ?_ | refine zI ?_ | refine zJ ?_ | refine zK ?_ | refine zL ?_ | refine zM ?_ | refine zN ?_ | refine zO ?_)
      repeat (first | refine zT rfl rfl rfl rfl rfl rfl (cbin_inc (by omega)) ?_ | refine zP rfl rfl rfl rfl rfl ?_ | refine zQ rfl rfl rfl ?_ | refine zR rfl rfl rfl rfl rfl (by first | assumption | exact cload_of (by assumption) rfl) ?_ | refine zS rfl rfl rfl rfl rfl rfl rfl rfl (by first | exact SlA.len (by assumption) rfl | exact Sl.map (by assumption) rfl | exact Sl.len (by assumption) rfl) ?_)
      refine pops.nil ?_
      repeat (first | refine zA ?_ | refine zB ?_ | refine zC ?_ | refine zD ?_ | refine zE ?_ | refine zF ?_ | refine zG rfl ?_ | refine zH ?_ | refine zI ?_ | refine zJ ?_ | refine zK ?_ | refine zL ?_ | refine zM ?_ | refine zN ?_ | refine zO ?_)
      refine zP rfl rfl rfl rfl rfl ?_
      refine zP rfl rfl rfl rfl rfl ?_
      refine pops.callG rfl rfl rfl rfl rfl hf rfl rfl rfl (hp _ h2) fun h3 hwf3 g3 => ?_
      rw [hq _ (by omega)]
      repeat (first | refine zT rfl rfl rfl rfl rfl rfl (cbin_inc (by omega)) ?_ | refine zP rfl rfl rfl rfl rfl ?_ | refine zQ rfl rfl rfl ?_ | refine zR rfl rfl rfl rfl rfl (by first | assumption | exact cload_of (by assumption) rfl) ?_ | refine zS rfl rfl rfl rfl rfl rfl rfl rfl (by first | exact SlA.len (by assumption) rfl | exact Sl.map (by assumption) rfl | exact Sl.len (by assumption) rfl) ?_)
      refine pops.nil ?_
      repeat (first | refine zA ?_ | refine zB ?_ | refine zC ?_ | refine zD ?_ | refine zE ?_ | refine zF ?_ | refine zG rfl ?_ | refine zH ?_ | refine zI ?_ | refine zJ ?_ | refine zK ?_ | refine zL ?_ | refine zM ?_ | refine zN ?_ | refine zO ?_)
      refine pcond.t rfl ?_
      repeat (first | refine zA ?_ | refine zB ?_ | refine zC ?_ | refine zD ?_ | refine zE ?_ | refine zF ?_ | refine zG rfl ?_ | refine zH ?_ | refine zI ?_ | refine zJ ?_ | refine zK ?_ | refine zL ?_ | refine zM ?_ | refine zN ?_ | refine zO ?_)
      repeat (first | refine zT rfl rfl rfl rfl rfl rfl (cbin_inc (by omega)) ?_ | refine zP rfl rfl rfl rfl rfl ?_ | refine zQ rfl rfl rfl ?_ | refine zR rfl rfl rfl rfl rfl (by first | assumption | exact cload_of (by assumption) rfl) ?_ | refine zS rfl rfl rfl rfl rfl rfl rfl rfl (by first | exact SlA.len (by assumption) rfl | exact Sl.map (by assumption) rfl | exact Sl.len (by assumption) rfl) ?_)
      refine pops.nil ?_
      repeat (first | refine zA ?_ | refine zB ?_ | refine zC ?_ | refine zD ?_ | refine zE ?_ | refine zF ?_ | refine zG rfl ?_ | refine zH ?_ | refine zI ?_ | refine zJ ?_ | refine zK ?_ | refine zL ?_ | refine zM ?_ | refine zN ?_ | refine zO ?_)
      refine pleave.r rfl ?_
      refine ⟨⟨_, rfl, ?_⟩, g2.trans g3⟩
      have : (s.data.toList.all fun c => !q (c.toNat : Int)) = false := by rw [List.all_eq_false]; exact ⟨c, List.mem_of_getElem? hc, by rw [hq _ (by omega)]; decide⟩
      rw [this]
      exact decide_eq_true (by omega)
  · refine pops.nextE rfl rfl rfl rfl rfl hg hge ?_
    refine zP rfl rfl rfl rfl rfl ?_
    refine pops.nil ?_
    repeat (first | refine zA ?_ | refine zB ?_ | refine zC ?_ | refine zD ?_ | refine zE ?_ | refine zF ?_ | refine zG rfl ?_ | refine zH ?_ | refine zI ?_ | refine zJ ?_ | refine zK ?_ | refine zL ?_ | refine zM ?_ | refine zN ?_ | refine zO ?_)
    refine pcond.f rfl ?_
    repeat (first | refine zA ?_ | refine zB ?_ | refine zC ?_ | refine zD ?_ | refine zE ?_ | refine zF ?_ | refine zG rfl ?_ | refine zH ?_ | refine zI ?_ | refine zJ ?_ | refine zK ?_ | refine zL ?_ | refine zM ?_ | refine zN ?_ | refine zO ?_)
    repeat (first | refine zT rfl rfl rfl rfl rfl rfl (cbin_inc (by omega)) ?_ | refine zP rfl rfl rfl rfl rfl ?_ | refine zQ rfl rfl rfl ?_ | refine zR rfl rfl rfl rfl rfl (by first | assumption | exact cload_of (by assumption) rfl) ?_ | refine zS rfl rfl rfl rfl rfl rfl rfl rfl (by first | exact SlA.len (by assumption) rfl | exact Sl.map (by assumption) rfl | exact Sl.len (by assumption) rfl) ?_)
    refine pops.nil ?_
    repeat (first | refine zA ?_ | refine zB ?_ | refine zC ?_ | refine zD ?_ | refine zE ?_ | refine zF ?_ | refine zG rfl ?_ | refine zH ?_ | refine zI ?_ | refine zJ ?_ | refine zK ?_ | refine zL ?_ | refine zM ?_ | refine zN ?_ | refine zO ?_)
    refine pleave.r rfl ?_
    refine ⟨⟨_, rfl, ?_⟩, g⟩
    have : (s.data.toList.all fun c => !q (c.toNat : Int)) = true := by rw [List.all_eq_true]; exact all_end hall hge
    rw [this]
    exact decide_eq_false (by omega)
theorem fn_indexFuncS' : tab.fn 131 = some Tryz.f131 := by kernel_rfl
theorem fn_containsFuncS : tab.fn 102 = some Tryz.f102 := by kernel_rfl
theorem IndexFuncS_calls {s : ByteArray} {f : FuncId} {fn : Func} {q : Int → Bool} (hf : tab.fn f = some fn) (hq : ∀ c : Int, 128 ≤ c → q c = true) (hl : s.data.toList.length < 9223372036854775808)
    (hp : ∀ (c : Int) (h' : CH), CalF (X w) f [.int .i32 c] h' fun r h'' => r = .ret (.bool (q c)) ∧ Gr h' h'') :
    CalF (X w) 131 [.string s, .func (.func f) #[] #[]] h fun r h' => (∃ z : Int, r = .ret (.int .i64 z) ∧ decide (0 ≤ z) = !(s.data.toList.all fun c => !q (c.toNat : Int))) ∧ Gr h h' := by
  refine CalF.intro fn_indexFuncS' rfl (Nat.le_of_ble_eq_true rfl) ?_
  repeat (first | refine zA ?_ | refine zB ?_ | refine zC ?_ | refine zD ?_ | refine zE ?_ | refine zF ?_ | refine zG rfl ?_ | refine zH ?_ | refine zI ?_ | refine zJ ?_ | refine zK ?_ | refine zL ?_ | refine zM ?_ | refine zN ?_ | refine zO ?_)
  refine zP rfl rfl rfl rfl rfl ?_
  refine pops.nil ?_
  repeat (first | refine zA ?_ | refine zB ?_ | refine zC ?_ | refine zD ?_ | refine zE ?_ | refine zF ?_ | refine zG rfl ?_ | refine zH ?_ | refine zI ?_ | refine zJ ?_ | refine zK ?_ | refine zL ?_ | refine zM ?_ | refine zN ?_ | refine zO ?_)
  repeat (first | refine zT rfl rfl rfl rfl rfl rfl (cbin_inc (by omega)) ?_ | refine zP rfl rfl rfl rfl rfl ?_ | refine zQ rfl rfl rfl ?_ | refine zR rfl rfl rfl rfl rfl (by first | assumption | exact cload_of (by assumption) rfl) ?_ | refine zS rfl rfl rfl rfl rfl rfl rfl rfl (by first | exact SlA.len (by assumption) rfl | exact Sl.map (by assumption) rfl | exact Sl.len (by assumption) rfl) ?_)
  refine pops.callV rfl rfl rfl rfl rfl fn_indexFuncS rfl rfl ((indexFuncS_calls hf hq hl hp).mono fun r h2 hh => ?_)
  obtain ⟨⟨z, rfl, hz⟩, g⟩ := hh
  refine ⟨_, rfl, ?_⟩
  repeat (first | refine zT rfl rfl rfl rfl rfl rfl (cbin_inc (by omega)) ?_ | refine zP rfl rfl rfl rfl rfl ?_ | refine zQ rfl rfl rfl ?_ | refine zR rfl rfl rfl rfl rfl (by first | assumption | exact cload_of (by assumption) rfl) ?_ | refine zS rfl rfl rfl rfl rfl rfl rfl rfl (by first | exact SlA.len (by assumption) rfl | exact Sl.map (by assumption) rfl | exact Sl.len (by assumption) rfl) ?_)
  refine pops.nil ?_
  repeat (first | refine zA ?_ | refine zB ?_ | refine zC ?_ | refine zD ?_ | refine zE ?_ | refine zF ?_ | refine zG rfl ?_ | refine zH ?_ | refine zI ?_ | refine zJ ?_ | refine zK ?_ | refine zL ?_ | refine zM ?_ | refine zN ?_ | refine zO ?_)
  refine pleave.r rfl ?_
  exact ⟨⟨z, rfl, hz⟩, g⟩
theorem containsFuncS_calls {s : ByteArray} {f : FuncId} {fn : Func} {q : Int → Bool} (hf : tab.fn f = some fn) (hq : ∀ c : Int, 128 ≤ c → q c = true) (hl : s.data.toList.length < 9223372036854775808)
    (hp : ∀ (c : Int) (h' : CH), CalF (X w) f [.int .i32 c] h' fun r h'' => r = .ret (.bool (q c)) ∧ Gr h' h'') :
    CalF (X w) 102 [.string s, .func (.func f) #[] #[]] h fun r h' => r = .ret (.bool (!(s.data.toList.all fun c => !q (c.toNat : Int)))) ∧ Gr h h' := by
  refine CalF.intro fn_containsFuncS rfl (Nat.le_of_ble_eq_true rfl) ?_
  repeat (first | refine zA ?_ | refine zB ?_ | refine zC ?_ | refine zD ?_ | refine zE ?_ | refine zF ?_ | refine zG rfl ?_ | refine zH ?_ | refine zI ?_ | refine zJ ?_ | refine zK ?_ | refine zL ?_ | refine zM ?_ | refine zN ?_ | refine zO ?_)
  refine zP rfl rfl rfl rfl rfl ?_
  refine pops.nil ?_
  repeat (first | refine zA ?_ | refine zB ?_ | refine zC ?_ | refine zD ?_ | refine zE ?_ | refine zF ?_ | refine zG rfl ?_ | refine zH ?_ | refine zI ?_ | refine zJ ?_ | refine zK ?_ | refine zL ?_ | refine zM ?_ | refine zN ?_ | refine zO ?_)
  repeat (first | refine zT rfl rfl rfl rfl rfl rfl (cbin_inc (by omega)) ?_ | refine zP rfl rfl rfl rfl rfl ?_ | refine zQ rfl rfl rfl ?_ | refine zR rfl rfl rfl rfl rfl (by first | assumption | exact cload_of (by assumption) rfl) ?_ | refine zS rfl rfl rfl rfl rfl rfl rfl rfl (by first | exact SlA.len (by assumption) rfl | exact Sl.map (by assumption) rfl | exact Sl.len (by assumption) rfl) ?_)
  refine pops.callV rfl rfl rfl rfl rfl fn_indexFuncS' rfl rfl ((IndexFuncS_calls hf hq hl hp).mono fun r h2 hh => ?_)
  obtain ⟨⟨z, rfl, hz⟩, g⟩ := hh
  refine ⟨_, rfl, ?_⟩
  repeat (first | refine zT rfl rfl rfl rfl rfl rfl (cbin_inc (by omega)) ?_ | refine zP rfl rfl rfl rfl rfl ?_ | refine zQ rfl rfl rfl ?_ | refine zR rfl rfl rfl rfl rfl (by first | assumption | exact cload_of (by assumption) rfl) ?_ | refine zS rfl rfl rfl rfl rfl rfl rfl rfl (by first | exact SlA.len (by assumption) rfl | exact Sl.map (by assumption) rfl | exact Sl.len (by assumption) rfl) ?_)
  refine pops.nil ?_
  repeat (first | refine zA ?_ | refine zB ?_ | refine zC ?_ | refine zD ?_ | refine zE ?_ | refine zF ?_ | refine zG rfl ?_ | refine zH ?_ | refine zI ?_ | refine zJ ?_ | refine zK ?_ | refine zL ?_ | refine zM ?_ | refine zN ?_ | refine zO ?_)
  refine pleave.r rfl ?_
  rw [← hz]
  exact ⟨rfl, g⟩
theorem letterB_big (c : Int) (hc : 128 ≤ c) : (!letterB c) = true := by
  unfold letterB
  rw [decide_eq_false (show ¬ c ≤ 90 by omega), decide_eq_false (show ¬ c ≤ 122 by omega), decide_eq_false (show ¬ c ≤ 57 by omega), decide_eq_false (show ¬ c = 95 by omega)]
  simp
theorem fn_pnamed : tab.fn 77 = some Tryz.f77 := by kernel_rfl
theorem pnamed_calls (s : ByteArray) (hl : s.data.toList.length < 9223372036854775808) : CalF (X w) 77 [.string s] h fun r h' => r = .ret (.bool (namedB s)) ∧ Gr h h' := by
  refine CalF.intro fn_pnamed rfl (Nat.le_of_ble_eq_true rfl) ?_
  repeat (first | refine zA ?_ | refine zB ?_ | refine zC ?_ | refine zD ?_ | refine zE ?_ | refine zF ?_ | refine zG rfl ?_ | refine zH ?_ | refine zI ?_ | refine zJ ?_ | refine zK ?_ | refine zL ?_ | refine zM ?_ | refine zN ?_ | refine zO ?_)
  refine zP rfl rfl rfl rfl rfl ?_
  refine pops.nil ?_
  repeat (first | refine zA ?_ | refine zB ?_ | refine zC ?_ | refine zD ?_ | refine zE ?_ | refine zF ?_ | refine zG rfl ?_ | refine zH ?_ | refine zI ?_ | refine zJ ?_ | refine zK ?_ | refine zL ?_ | refine zM ?_ | refine zN ?_ | refine zO ?_)
  repeat (first | refine zT rfl rfl rfl rfl rfl rfl (cbin_inc (by omega)) ?_ | refine zY rfl rfl rfl rfl rfl rfl ?_ | refine zQ rfl rfl rfl ?_ | refine zR rfl rfl rfl rfl rfl (by first | assumption | exact cload_of (by assumption) rfl) ?_ | refine zS rfl rfl rfl rfl rfl rfl rfl rfl (by first | exact SlA.len (by assumption) rfl | exact Sl.map (by assumption) rfl | exact Sl.len (by assumption) rfl) ?_)
  refine zZ rfl rfl rfl rfl rfl (fun q1 => ?_) (fun q1 => ?_)
  rotate_left
  · have q1 := of_decide_eq_false q1
    repeat (first | refine zT rfl rfl rfl rfl rfl rfl (cbin_inc (by omega)) ?_ | refine zP rfl rfl rfl rfl rfl ?_ | refine zQ rfl rfl rfl ?_ | refine zR rfl rfl rfl rfl rfl (by first | assumption | exact cload_of (by assumption) rfl) ?_ | refine zS rfl rfl rfl rfl rfl rfl rfl rfl (by first | exact SlA.len (by assumption) rfl | exact Sl.map (by assumption) rfl | exact Sl.len (by assumption) rfl) ?_)
    refine pops.nil ?_
    repeat (first | refine zA ?_ | refine zB ?_ | refine zC ?_ | refine zD ?_ | refine zE ?_ | refine zF ?_ | refine zG rfl ?_ | refine zH ?_ | refine zI ?_ | refine zJ ?_ | refine zK ?_ | refine zL ?_ | refine zM ?_ | refine zN ?_ | refine zO ?_)
    refine pleave.r rfl ?_
    refine ⟨?_, Gr.refl _⟩
    unfold namedB
    rw [decide_eq_false (show ¬ 1 ≤ s.data.toList.length by omega), Bool.and_false]
    rfl
  have q1 := of_decide_eq_true q1
  repeat (first | refine zT rfl rfl rfl rfl rfl rfl (cbin_inc (by omega)) ?_ | refine zY rfl rfl rfl rfl rfl rfl ?_ | refine zQ rfl rfl rfl ?_ | refine zR rfl rfl rfl rfl rfl (by first | assumption | exact cload_of (by assumption) rfl) ?_ | refine zS rfl rfl rfl rfl rfl rfl rfl rfl (by first | exact SlA.len (by assumption) rfl | exact Sl.map (by assumption) rfl | exact Sl.len (by assumption) rfl) ?_)
  refine zZ rfl rfl rfl rfl rfl (fun q2 => ?_) (fun q2 => ?_)
  rotate_left
  · have q2 := of_decide_eq_false q2
    repeat (first | refine zT rfl rfl rfl rfl rfl rfl (cbin_inc (by omega)) ?_ | refine zP rfl rfl rfl rfl rfl ?_ | refine zQ rfl rfl rfl ?_ | refine zR rfl rfl rfl rfl rfl (by first | assumption | exact cload_of (by assumption) rfl) ?_ | refine zS rfl rfl rfl rfl rfl rfl rfl rfl (by first | exact SlA.len (by assumption) rfl | exact Sl.map (by assumption) rfl | exact Sl.len (by assumption) rfl) ?_)
    refine pops.nil ?_
    repeat (first | refine zA ?_ | refine zB ?_ | refine zC ?_ | refine zD ?_ | refine zE ?_ | refine zF ?_ | refine zG rfl ?_ | refine zH ?_ | refine zI ?_ | refine zJ ?_ | refine zK ?_ | refine zL ?_ | refine zM ?_ | refine zN ?_ | refine zO ?_)
    refine pleave.r rfl ?_
    refine ⟨?_, Gr.refl _⟩
    unfold namedB
    rw [decide_eq_false (show ¬ s.data.toList.length ≤ 32 by omega), Bool.and_false]
  have q2 := of_decide_eq_true q2
  repeat (first | refine zT rfl rfl rfl rfl rfl rfl (cbin_inc (by omega)) ?_ | refine zP rfl rfl rfl rfl rfl ?_ | refine zQ rfl rfl rfl ?_ | refine zR rfl rfl rfl rfl rfl (by first | assumption | exact cload_of (by assumption) rfl) ?_ | refine zS rfl rfl rfl rfl rfl rfl rfl rfl (by first | exact SlA.len (by assumption) rfl | exact Sl.map (by assumption) rfl | exact Sl.len (by assumption) rfl) ?_)
  refine pops.callG rfl rfl rfl rfl rfl fn_containsFuncS rfl rfl rfl (containsFuncS_calls (q := fun c => !letterB c) fn_named10c letterB_big hl fun c h' => named10c_calls c) fun h2 hwf2 g2 => ?_
  repeat (first | refine zT rfl rfl rfl rfl rfl rfl (cbin_inc (by omega)) ?_ | refine zP rfl rfl rfl rfl rfl ?_ | refine zQ rfl rfl rfl ?_ | refine zR rfl rfl rfl rfl rfl (by first | assumption | exact cload_of (by assumption) rfl) ?_ | refine zS rfl rfl rfl rfl rfl rfl rfl rfl (by first | exact SlA.len (by assumption) rfl | exact Sl.map (by assumption) rfl | exact Sl.len (by assumption) rfl) ?_)
  refine pops.nil ?_
  repeat (first | refine zA ?_ | refine zB ?_ | refine zC ?_ | refine zD ?_ | refine zE ?_ | refine zF ?_ | refine zG rfl ?_ | refine zH ?_ | refine zI ?_ | refine zJ ?_ | refine zK ?_ | refine zL ?_ | refine zM ?_ | refine zN ?_ | refine zO ?_)
  refine pleave.r rfl ?_
  refine ⟨?_, g2⟩
  unfold namedB
  rw [decide_eq_true (show 1 ≤ s.data.toList.length by omega), decide_eq_true (show s.data.toList.length ≤ 32 by omega)]
  simp
theorem fn_cpvalid : tab.fn 78 = some Tryz.f78 := by kernel_rfl
theorem cpvalid_calls (c : Int) : CalF (X w) 78 [.int .i64 c] h fun r h' => r = .ret (.bool (decide (0 ≤ c) && decide (c ≤ 1114111))) ∧ Gr h h' := by
  refine CalF.intro fn_cpvalid rfl (Nat.le_of_ble_eq_true rfl) ?_
  repeat (first | refine zA ?_ | refine zB ?_ | refine zC ?_ | refine zD ?_ | refine zE ?_ | refine zF ?_ | refine zG rfl ?_ | refine zH ?_ | refine zI ?_ | refine zJ ?_ | refine zK ?_ | refine zL ?_ | refine zM ?_ | refine zN ?_ | refine zO ?_)
  refine zP rfl rfl rfl rfl rfl ?_
  refine pops.nil ?_
  repeat (first | refine zA ?_ | refine zB ?_ | refine zC ?_ | refine zD ?_ | refine zE ?_ | refine zF ?_ | refine zG rfl ?_ | refine zH ?_ | refine zI ?_ | refine zJ ?_ | refine zK ?_ | refine zL ?_ | refine zM ?_ | refine zN ?_ | refine zO ?_)
  repeat' (first | refine zZ rfl rfl rfl rfl rfl (fun _ => ?_) (fun _ => ?_) | refine zP rfl rfl rfl rfl rfl ?_ | refine zQ rfl rfl rfl ?_)
  all_goals (refine pops.nil ?_)
  all_goals (repeat (first | refine zA ?_ | refine zB ?_ | refine zC ?_ | refine zD ?_ | refine zE ?_ | refine zF ?_ | refine zG rfl ?_ | refine zH ?_ | refine zI ?_ | refine zJ ?_ | refine zK ?_ | refine zL ?_ | refine zM ?_ | refine zN ?_ | refine zO ?_))
  all_goals (refine pleave.r rfl ?_)
  all_goals (refine ⟨?_, Gr.refl h⟩)
  all_goals (congr 2; simp_all <;> (intros; omega))
theorem fn_inside : tab.fn 58 = some Tryz.f58 := by kernel_rfl
theorem inside_calls (x : SpanD) : CalF (X w) 58 [spanV x] h fun r h' => r = .ret (.bool (decide (0 ≤ x.lo ∧ x.lo ≤ x.hi ∧ x.hi ≤ 1114111))) ∧ Gr h h' := by
  refine CalF.wf fun hwf => ?_
  refine CalF.intro fn_inside rfl (Nat.le_of_ble_eq_true rfl) ?_
  repeat (first | refine zA ?_ | refine zB ?_ | refine zC ?_ | refine zD ?_ | refine zE ?_ | refine zF ?_ | refine zG rfl ?_ | refine zH ?_ | refine zI ?_ | refine zJ ?_ | refine zK ?_ | refine zL ?_ | refine zM ?_ | refine zN ?_ | refine zO ?_)
  refine pops.box (cs := [.int .i64 x.lo, .int .i64 x.hi, .int .i64 x.value]) rfl rfl rfl rfl rfl rfl rfl hwf fun b h1 hb hwf1 g1 hc => ?_
  refine zP rfl rfl rfl rfl rfl ?_
  refine pops.nil ?_
  repeat (first | refine zA ?_ | refine zB ?_ | refine zC ?_ | refine zD ?_ | refine zE ?_ | refine zF ?_ | refine zG rfl ?_ | refine zH ?_ | refine zI ?_ | refine zJ ?_ | refine zK ?_ | refine zL ?_ | refine zM ?_ | refine zN ?_ | refine zO ?_)
  repeat (first | refine zT rfl rfl rfl rfl rfl rfl (cbin_inc (by omega)) ?_ | refine zP rfl rfl rfl rfl rfl ?_ | refine zQ rfl rfl rfl ?_ | refine zR rfl rfl rfl rfl rfl (by first | assumption | exact cload_of (by assumption) rfl) ?_ | refine zS rfl rfl rfl rfl rfl rfl rfl rfl (by first | exact SlA.len (by assumption) rfl | exact Sl.map (by assumption) rfl | exact Sl.len (by assumption) rfl) ?_)
  refine pops.callG rfl rfl rfl rfl rfl fn_cpvalid rfl rfl rfl (cpvalid_calls x.lo) fun h2 hwf2 g2 => ?_
  replace hc := g2.at hwf1 hc
  cases hd : (decide (0 ≤ x.lo) && decide (x.lo ≤ 1114111)) with
  | false =>
    repeat (first | refine zT rfl rfl rfl rfl rfl rfl (cbin_inc (by omega)) ?_ | refine zP rfl rfl rfl rfl rfl ?_ | refine zQ rfl rfl rfl ?_ | refine zR rfl rfl rfl rfl rfl (by first | assumption | exact cload_of (by assumption) rfl) ?_ | refine zS rfl rfl rfl rfl rfl rfl rfl rfl (by first | exact SlA.len (by assumption) rfl | exact Sl.map (by assumption) rfl | exact Sl.len (by assumption) rfl) ?_)
    refine pops.nil ?_
    repeat (first | refine zA ?_ | refine zB ?_ | refine zC ?_ | refine zD ?_ | refine zE ?_ | refine zF ?_ | refine zG rfl ?_ | refine zH ?_ | refine zI ?_ | refine zJ ?_ | refine zK ?_ | refine zL ?_ | refine zM ?_ | refine zN ?_ | refine zO ?_)
    refine pleave.r rfl ?_
    refine ⟨?_, g1.trans g2⟩
    rw [decide_eq_false]
    simp at hd
    omega
  | true =>
    repeat (first | refine zT rfl rfl rfl rfl rfl rfl (cbin_inc (by omega)) ?_ | refine zP rfl rfl rfl rfl rfl ?_ | refine zQ rfl rfl rfl ?_ | refine zR rfl rfl rfl rfl rfl (by first | assumption | exact cload_of (by assumption) rfl) ?_ | refine zS rfl rfl rfl rfl rfl rfl rfl rfl (by first | exact SlA.len (by assumption) rfl | exact Sl.map (by assumption) rfl | exact Sl.len (by assumption) rfl) ?_)
    refine pops.callG rfl rfl rfl rfl rfl fn_cpvalid rfl rfl rfl (cpvalid_calls x.hi) fun h3 hwf3 g3 => ?_
    replace hc := g3.at hwf2 hc
    cases hd2 : (decide (0 ≤ x.hi) && decide (x.hi ≤ 1114111)) with
    | false =>
      repeat (first | refine zT rfl rfl rfl rfl rfl rfl (cbin_inc (by omega)) ?_ | refine zP rfl rfl rfl rfl rfl ?_ | refine zQ rfl rfl rfl ?_ | refine zR rfl rfl rfl rfl rfl (by first | assumption | exact cload_of (by assumption) rfl) ?_ | refine zS rfl rfl rfl rfl rfl rfl rfl rfl (by first | exact SlA.len (by assumption) rfl | exact Sl.map (by assumption) rfl | exact Sl.len (by assumption) rfl) ?_)
      refine pops.nil ?_
      repeat (first | refine zA ?_ | refine zB ?_ | refine zC ?_ | refine zD ?_ | refine zE ?_ | refine zF ?_ | refine zG rfl ?_ | refine zH ?_ | refine zI ?_ | refine zJ ?_ | refine zK ?_ | refine zL ?_ | refine zM ?_ | refine zN ?_ | refine zO ?_)
      refine pleave.r rfl ?_
      refine ⟨?_, (g1.trans g2).trans g3⟩
      rw [decide_eq_false]
      simp at hd hd2
      omega
    | true =>
      repeat (first | refine zT rfl rfl rfl rfl rfl rfl (cbin_inc (by omega)) ?_ | refine zP rfl rfl rfl rfl rfl ?_ | refine zQ rfl rfl rfl ?_ | refine zR rfl rfl rfl rfl rfl (by first | assumption | exact cload_of (by assumption) rfl) ?_ | refine zS rfl rfl rfl rfl rfl rfl rfl rfl (by first | exact SlA.len (by assumption) rfl | exact Sl.map (by assumption) rfl | exact Sl.len (by assumption) rfl) ?_)
      refine pops.nil ?_
      repeat (first | refine zA ?_ | refine zB ?_ | refine zC ?_ | refine zD ?_ | refine zE ?_ | refine zF ?_ | refine zG rfl ?_ | refine zH ?_ | refine zI ?_ | refine zJ ?_ | refine zK ?_ | refine zL ?_ | refine zM ?_ | refine zN ?_ | refine zO ?_)
      refine pleave.r rfl ?_
      refine ⟨?_, (g1.trans g2).trans g3⟩
      refine congrArg (fun b => CRes.ret (Value.bool b)) (?_ : decide (x.lo ≤ x.hi) = decide (0 ≤ x.lo ∧ x.lo ≤ x.hi ∧ x.hi ≤ 1114111))
      simp at hd hd2
      rw [Bool.eq_iff_iff, decide_eq_true_iff, decide_eq_true_iff]
      omega
end Go.Proofs.YtpcoponpfhnhlaaGreatDoor
set_option maxRecDepth 100000
set_option linter.unusedVariables false
set_option linter.unusedSimpArgs false
namespace Go.Proofs.YtpcoponpfhnhlaaGreatDoor
open Go.Cx
variable {w : World} {h : CH}
theorem fn_pindices : tab.fn 57 = some Tryz.f57 := by kernel_rfl
theorem pindices_calls {v : Value} {l : List ByteArray} (hv : SlS tab 9 h v l) (hlen : ∀ s, s ∈ l → s.data.toList.length < 9223372036854775808) :
    CalF (X w) 57 [v] h fun r h' => (∃ m, r = .ret (.tuple #[m, .bool (tt (NamesQ l))])) ∧ Gr h h' := by
  refine CalF.wf fun hwf => ?_
  have hlt := hv.lt
  refine CalF.intro fn_pindices rfl (Nat.le_of_ble_eq_true rfl) ?_
  repeat (first | refine zA ?_ | refine zB ?_ | refine zC ?_ | refine zD ?_ | refine zE ?_ | refine zF ?_ | refine zG rfl ?_ | refine zH ?_ | refine zI ?_ | refine zJ ?_ | refine zK ?_ | refine zL ?_ | refine zM ?_ | refine zN ?_ | refine zO ?_)
  repeat (first | refine zT rfl rfl rfl rfl rfl rfl (cbin_inc (by omega)) ?_ | refine zP rfl rfl rfl rfl rfl ?_ | refine zQ rfl rfl rfl ?_ | refine zR rfl rfl rfl rfl rfl (by first | assumption | exact cload_of (by assumption) rfl) ?_ | refine zS rfl rfl rfl rfl rfl rfl rfl rfl (by first | exact SlA.len (by assumption) rfl | exact Sl.map (by assumption) rfl | exact Sl.len (by assumption) rfl) ?_)
  refine pops.nil ?_
  repeat (first | refine zA ?_ | refine zB ?_ | refine zC ?_ | refine zD ?_ | refine zE ?_ | refine zF ?_ | refine zG rfl ?_ | refine zH ?_ | refine zI ?_ | refine zJ ?_ | refine zK ?_ | refine zL ?_ | refine zM ?_ | refine zN ?_ | refine zO ?_)
  repeat (first | refine zT rfl rfl rfl rfl rfl rfl (cbin_inc (by omega)) ?_ | refine zP rfl rfl rfl rfl rfl ?_ | refine zQ rfl rfl rfl ?_ | refine zR rfl rfl rfl rfl rfl (by first | assumption | exact cload_of (by assumption) rfl) ?_ | refine zS rfl rfl rfl rfl rfl rfl rfl rfl (by first | exact SlA.len (by assumption) rfl | exact Sl.map (by assumption) rfl | exact Sl.len (by assumption) rfl) ?_)
  refine pops.makeMap rfl rfl rfl rfl rfl hwf fun b h1 hb hwf1 g1 hc => ?_
  repeat (first | refine zT rfl rfl rfl rfl rfl rfl (cbin_inc (by omega)) ?_ | refine zP rfl rfl rfl rfl rfl ?_ | refine zQ rfl rfl rfl ?_ | refine zR rfl rfl rfl rfl rfl (by first | assumption | exact cload_of (by assumption) rfl) ?_ | refine zS rfl rfl rfl rfl rfl rfl rfl rfl (by first | exact SlA.len (by assumption) rfl | exact Sl.map (by assumption) rfl | exact Sl.len (by assumption) rfl) ?_)
  refine pops.nil ?_
  repeat (first | refine zA ?_ | refine zB ?_ | refine zC ?_ | refine zD ?_ | refine zE ?_ | refine zF ?_ | refine zG rfl ?_ | refine zH ?_ | refine zI ?_ | refine zJ ?_ | refine zK ?_ | refine zL ?_ | refine zM ?_ | refine zN ?_ | refine zO ?_)
  have hv1 := Sl.gr hv hwf g1
  repeat (first | refine zT rfl rfl rfl rfl rfl rfl (cbin_inc (by omega)) ?_ | refine zP rfl rfl rfl rfl rfl ?_ | refine zQ rfl rfl rfl ?_ | refine zR rfl rfl rfl rfl rfl (by first | assumption | exact cload_of (by assumption) rfl) ?_ | refine zS rfl rfl rfl rfl rfl rfl rfl rfl (by first | exact SlA.len (by assumption) rfl | exact Sl.map (by assumption) rfl | exact Sl.len (by assumption) rfl) ?_)
  refine pops.nil ?_
  repeat (first | refine zA ?_ | refine zB ?_ | refine zC ?_ | refine zD ?_ | refine zE ?_ | refine zF ?_ | refine zG rfl ?_ | refine zH ?_ | refine zI ?_ | refine zJ ?_ | refine zK ?_ | refine zL ?_ | refine zM ?_ | refine zN ?_ | refine zO ?_)
  refine Loops.ind 6 (fun i : Nat => [(0, v), (2, .map none), (3, .bool false), (4, .map (some b)), (12, v), (13, .int .i64 (l.length : Nat)), (14, .int .i64 (i : Nat))])
    (fun i h' => i ≤ l.length ∧ Gr h h' ∧ (∃ es : List (ByteArray × Value), es.map (·.1) = l.take i ∧ h'.get b = some (.map (mkE 0 es) es.length)) ∧ (∀ (j : Nat) s, j < i → l[j]? = some s → namedB s = true) ∧ ∀ (j k : Nat) x y, j < k → k < i → l[j]? = some x → l[k]? = some y → bytesBeq x.data.toList y.data.toList = false)
    (fun i => l.length - i) 0 (by decide) ⟨rfl, rfl, rfl, rfl, rfl, rfl, rfl, trivial⟩ ⟨Nat.zero_le _, g1, ⟨[], rfl, hc⟩, all_none, fun j k x y h1 h2 => absurd h2 (Nat.not_lt_zero _)⟩ ?_
  clear hv1 hc
  rintro i z h' hwf' ⟨hi, hg, ⟨es, hes, hc⟩, hall, hdis⟩
  have hv' := Sl.gr hv hwf hg
  repeat (first | refine zA ?_ | refine zB ?_ | refine zC ?_ | refine zD ?_ | refine zE ?_ | refine zF ?_ | refine zG rfl ?_ | refine zH ?_ | refine zI ?_ | refine zJ ?_ | refine zK ?_ | refine zL ?_ | refine zM ?_ | refine zN ?_ | refine zO ?_)
  repeat (first | refine zT rfl rfl rfl rfl rfl rfl (cbin_inc (by omega)) ?_ | refine zP rfl rfl rfl rfl rfl ?_ | refine zQ rfl rfl rfl ?_ | refine zR rfl rfl rfl rfl rfl (by first | assumption | exact cload_of (by assumption) rfl) ?_ | refine zS rfl rfl rfl rfl rfl rfl rfl rfl (by first | exact SlA.len (by assumption) rfl | exact Sl.map (by assumption) rfl | exact Sl.len (by assumption) rfl) ?_)
  refine pops.nil ?_
  repeat (first | refine zA ?_ | refine zB ?_ | refine zC ?_ | refine zD ?_ | refine zE ?_ | refine zF ?_ | refine zG rfl ?_ | refine zH ?_ | refine zI ?_ | refine zJ ?_ | refine zK ?_ | refine zL ?_ | refine zM ?_ | refine zN ?_ | refine zO ?_)
  refine pcond.d (p := (i : Int) < (l.length : Nat)) rfl (fun hlt => ?_) (fun hge => ?_)
  · have hlt : i < l.length := by omega
    obtain ⟨s, hx⟩ : ∃ x, l[i]? = some x := ⟨_, List.getElem?_eq_getElem hlt⟩
    have hsl := hlen s (List.mem_of_getElem? hx)
    obtain ⟨v1, hv1⟩ := clookup_str (T := tab) (h := h') (t := 60) (k := s) (l := es) rfl rfl rfl hc
    have hkey : hasKey s es = true ↔ ∃ j x, j < i ∧ l[j]? = some x ∧ bytesBeq x.data.toList s.data.toList = true := by
      unfold hasKey
      rw [List.any_eq_true]
      constructor
      · rintro ⟨p, hp, hb⟩
        have : p.1 ∈ l.take i := by rw [← hes]; exact List.mem_map_of_mem hp
        obtain ⟨j, hj⟩ := List.mem_iff_getElem?.1 this
        rw [List.getElem?_take] at hj
        split at hj
        · rename_i hji; exact ⟨j, p.1, hji, hj, by rw [bytesBeq_comm]; exact hb⟩
        · cases hj
      · rintro ⟨j, x, hj, hx, hb⟩
        have : x ∈ l.take i := List.mem_of_getElem? (i := j) (by rw [List.getElem?_take, if_pos hj]; exact hx)
        rw [← hes] at this
        obtain ⟨p, hp, rfl⟩ := List.mem_map.1 this
        exact ⟨p, hp, by rw [bytesBeq_comm]; exact hb⟩
    repeat (first | refine zA ?_ | refine zB ?_ | refine zC ?_ | refine zD ?_ | refine zE ?_ | refine zF ?_ | refine zG rfl ?_ | refine zH ?_ | refine zI ?_ | refine zJ ?_ | refine zK ?_ | refine zL ?_ | refine zM ?_ | refine zN ?_ | refine zO ?_)
    refine zP rfl rfl rfl rfl rfl ?_
    refine pops.atI (f := Value.string) rfl rfl rfl rfl rfl rfl rfl hv' hx fun q hq => ?_
    refine zR rfl rfl rfl rfl rfl (by first | assumption | exact cload_of (by assumption) rfl) ?_
    repeat (first | refine zT rfl rfl rfl rfl rfl rfl (cbin_inc (by omega)) ?_ | refine zP rfl rfl rfl rfl rfl ?_ | refine zQ rfl rfl rfl ?_ | refine zR rfl rfl rfl rfl rfl (by first | assumption | exact cload_of (by assumption) rfl) ?_ | refine zS rfl rfl rfl rfl rfl rfl rfl rfl (by first | exact SlA.len (by assumption) rfl | exact Sl.map (by assumption) rfl | exact Sl.len (by assumption) rfl) ?_)
    refine pops.nil ?_
    repeat (first | refine zA ?_ | refine zB ?_ | refine zC ?_ | refine zD ?_ | refine zE ?_ | refine zF ?_ | refine zG rfl ?_ | refine zH ?_ | refine zI ?_ | refine zJ ?_ | refine zK ?_ | refine zL ?_ | refine zM ?_ | refine zN ?_ | refine zO ?_)
    refine zP rfl rfl rfl rfl rfl ?_
    refine zP rfl rfl rfl rfl rfl ?_
    refine pops.lookup rfl rfl rfl rfl rfl rfl hv1 ?_
    repeat (first | refine zT rfl rfl rfl rfl rfl rfl (cbin_inc (by omega)) ?_ | refine zP rfl rfl rfl rfl rfl ?_ | refine zQ rfl rfl rfl ?_ | refine zR rfl rfl rfl rfl rfl (by first | assumption | exact cload_of (by assumption) rfl) ?_ | refine zS rfl rfl rfl rfl rfl rfl rfl rfl (by first | exact SlA.len (by assumption) rfl | exact Sl.map (by assumption) rfl | exact Sl.len (by assumption) rfl) ?_)
    refine pops.nil ?_
    repeat (first | refine zA ?_ | refine zB ?_ | refine zC ?_ | refine zD ?_ | refine zE ?_ | refine zF ?_ | refine zG rfl ?_ | refine zH ?_ | refine zI ?_ | refine zJ ?_ | refine zK ?_ | refine zL ?_ | refine zM ?_ | refine zN ?_ | refine zO ?_)
    have bad : ¬ NamesQ l → (∃ m, CRes.ret (.tuple #[.map none, .bool false]) = .ret (.tuple #[m, .bool (tt (NamesQ l))])) := fun hn => ⟨_, by rw [tt_f hn]⟩
    cases hk : hasKey s es with
    | true =>
      repeat (first | refine zT rfl rfl rfl rfl rfl rfl (cbin_inc (by omega)) ?_ | refine zP rfl rfl rfl rfl rfl ?_ | refine zQ rfl rfl rfl ?_ | refine zR rfl rfl rfl rfl rfl (by first | assumption | exact cload_of (by assumption) rfl) ?_ | refine zS rfl rfl rfl rfl rfl rfl rfl rfl (by first | exact SlA.len (by assumption) rfl | exact Sl.map (by assumption) rfl | exact Sl.len (by assumption) rfl) ?_)
      refine pops.nil ?_
      repeat (first | refine zA ?_ | refine zB ?_ | refine zC ?_ | refine zD ?_ | refine zE ?_ | refine zF ?_ | refine zG rfl ?_ | refine zH ?_ | refine zI ?_ | refine zJ ?_ | refine zK ?_ | refine zL ?_ | refine zM ?_ | refine zN ?_ | refine zO ?_)
      refine pcond.t rfl ?_
      repeat (first | refine zA ?_ | refine zB ?_ | refine zC ?_ | refine zD ?_ | refine zE ?_ | refine zF ?_ | refine zG rfl ?_ | refine zH ?_ | refine zI ?_ | refine zJ ?_ | refine zK ?_ | refine zL ?_ | refine zM ?_ | refine zN ?_ | refine zO ?_)
      repeat (first | refine zT rfl rfl rfl rfl rfl rfl (cbin_inc (by omega)) ?_ | refine zP rfl rfl rfl rfl rfl ?_ | refine zQ rfl rfl rfl ?_ | refine zR rfl rfl rfl rfl rfl (by first | assumption | exact cload_of (by assumption) rfl) ?_ | refine zS rfl rfl rfl rfl rfl rfl rfl rfl (by first | exact SlA.len (by assumption) rfl | exact Sl.map (by assumption) rfl | exact Sl.len (by assumption) rfl) ?_)
      refine pops.nil ?_
      repeat (first | refine zA ?_ | refine zB ?_ | refine zC ?_ | refine zD ?_ | refine zE ?_ | refine zF ?_ | refine zG rfl ?_ | refine zH ?_ | refine zI ?_ | refine zJ ?_ | refine zK ?_ | refine zL ?_ | refine zM ?_ | refine zN ?_ | refine zO ?_)
      refine pleave.r rfl ?_
      refine ⟨bad fun hN => ?_, hg⟩
      obtain ⟨j, x, h1, h2, h3⟩ := hkey.1 hk
      have := hN.2.1 j i x s h1 h2 hx
      rw [this] at h3
      cases h3
    | false =>
      repeat (first | refine zT rfl rfl rfl rfl rfl rfl (cbin_inc (by omega)) ?_ | refine zP rfl rfl rfl rfl rfl ?_ | refine zQ rfl rfl rfl ?_ | refine zR rfl rfl rfl rfl rfl (by first | assumption | exact cload_of (by assumption) rfl) ?_ | refine zS rfl rfl rfl rfl rfl rfl rfl rfl (by first | exact SlA.len (by assumption) rfl | exact Sl.map (by assumption) rfl | exact Sl.len (by assumption) rfl) ?_)
      refine pops.callG rfl rfl rfl rfl rfl fn_pnamed rfl rfl rfl (pnamed_calls s hsl) fun h2 hwf2 g2 => ?_
      cases hn : namedB s with
      | false =>
        repeat (first | refine zT rfl rfl rfl rfl rfl rfl (cbin_inc (by omega)) ?_ | refine zP rfl rfl rfl rfl rfl ?_ | refine zQ rfl rfl rfl ?_ | refine zR rfl rfl rfl rfl rfl (by first | assumption | exact cload_of (by assumption) rfl) ?_ | refine zS rfl rfl rfl rfl rfl rfl rfl rfl (by first | exact SlA.len (by assumption) rfl | exact Sl.map (by assumption) rfl | exact Sl.len (by assumption) rfl) ?_)
        refine pops.nil ?_
        repeat (first | refine zA ?_ | refine zB ?_ | refine zC ?_ | refine zD ?_ | refine zE ?_ | refine zF ?_ | refine zG rfl ?_ | refine zH ?_ | refine zI ?_ | refine zJ ?_ | refine zK ?_ | refine zL ?_ | refine zM ?_ | refine zN ?_ | refine zO ?_)
        refine pcond.t rfl ?_
        repeat (first | refine zA ?_ | refine zB ?_ | refine zC ?_ | refine zD ?_ | refine zE ?_ | refine zF ?_ | refine zG rfl ?_ | refine zH ?_ | refine zI ?_ | refine zJ ?_ | refine zK ?_ | refine zL ?_ | refine zM ?_ | refine zN ?_ | refine zO ?_)
        repeat (first | refine zT rfl rfl rfl rfl rfl rfl (cbin_inc (by omega)) ?_ | refine zP rfl rfl rfl rfl rfl ?_ | refine zQ rfl rfl rfl ?_ | refine zR rfl rfl rfl rfl rfl (by first | assumption | exact cload_of (by assumption) rfl) ?_ | refine zS rfl rfl rfl rfl rfl rfl rfl rfl (by first | exact SlA.len (by assumption) rfl | exact Sl.map (by assumption) rfl | exact Sl.len (by assumption) rfl) ?_)
        refine pops.nil ?_
        repeat (first | refine zA ?_ | refine zB ?_ | refine zC ?_ | refine zD ?_ | refine zE ?_ | refine zF ?_ | refine zG rfl ?_ | refine zH ?_ | refine zI ?_ | refine zJ ?_ | refine zK ?_ | refine zL ?_ | refine zM ?_ | refine zN ?_ | refine zO ?_)
        refine pleave.r rfl ?_
        refine ⟨bad fun hN => ?_, hg.trans g2⟩
        have := hN.1 s (List.mem_of_getElem? hx)
        rw [hn] at this
        cases this
      | true =>
        repeat (first | refine zT rfl rfl rfl rfl rfl rfl (cbin_inc (by omega)) ?_ | refine zP rfl rfl rfl rfl rfl ?_ | refine zQ rfl rfl rfl ?_ | refine zR rfl rfl rfl rfl rfl (by first | assumption | exact cload_of (by assumption) rfl) ?_ | refine zS rfl rfl rfl rfl rfl rfl rfl rfl (by first | exact SlA.len (by assumption) rfl | exact Sl.map (by assumption) rfl | exact Sl.len (by assumption) rfl) ?_)
        refine pops.nil ?_
        repeat (first | refine zA ?_ | refine zB ?_ | refine zC ?_ | refine zD ?_ | refine zE ?_ | refine zF ?_ | refine zG rfl ?_ | refine zH ?_ | refine zI ?_ | refine zJ ?_ | refine zK ?_ | refine zL ?_ | refine zM ?_ | refine zN ?_ | refine zO ?_)
        refine pcond.f rfl ?_
        repeat (first | refine zA ?_ | refine zB ?_ | refine zC ?_ | refine zD ?_ | refine zE ?_ | refine zF ?_ | refine zG rfl ?_ | refine zH ?_ | refine zI ?_ | refine zJ ?_ | refine zK ?_ | refine zL ?_ | refine zM ?_ | refine zN ?_ | refine zO ?_)
        repeat (first | refine zT rfl rfl rfl rfl rfl rfl (cbin_inc (by omega)) ?_ | refine zP rfl rfl rfl rfl rfl ?_ | refine zQ rfl rfl rfl ?_ | refine zR rfl rfl rfl rfl rfl (by first | assumption | exact cload_of (by assumption) rfl) ?_ | refine zS rfl rfl rfl rfl rfl rfl rfl rfl (by first | exact SlA.len (by assumption) rfl | exact Sl.map (by assumption) rfl | exact Sl.len (by assumption) rfl) ?_)
        refine pops.putNew (kt := 9) (et := 3) rfl rfl rfl rfl rfl rfl rfl rfl (g2.at hwf' hc) hk hwf2 fun h4 hwf4 u4 hc4 => ?_
        refine pops.nil ?_
        repeat (first | refine zA ?_ | refine zB ?_ | refine zC ?_ | refine zD ?_ | refine zE ?_ | refine zF ?_ | refine zG rfl ?_ | refine zH ?_ | refine zI ?_ | refine zJ ?_ | refine zK ?_ | refine zL ?_ | refine zM ?_ | refine zN ?_ | refine zO ?_)
        repeat (first | refine zT rfl rfl rfl rfl rfl rfl (cbin_inc (by omega)) ?_ | refine zP rfl rfl rfl rfl rfl ?_ | refine zQ rfl rfl rfl ?_ | refine zR rfl rfl rfl rfl rfl (by first | assumption | exact cload_of (by assumption) rfl) ?_ | refine zS rfl rfl rfl rfl rfl rfl rfl rfl (by first | exact SlA.len (by assumption) rfl | exact Sl.map (by assumption) rfl | exact Sl.len (by assumption) rfl) ?_)
        refine pops.nil ?_
        refine .n ⟨_, i + 1, rfl, ⟨rfl, rfl, rfl, rfl, rfl, rfl, rfl, trivial⟩, (by show l.length - (i + 1) < l.length - i; omega), by omega, (hg.trans g2).upd hb u4, ⟨_, ?_, hc4⟩, all_next hall hx hn, fun j k x y h1 h2 h3 h4 => ?_⟩
        · rw [List.map_append, hes, List.take_add_one, hx]
          rfl
        · rcases Nat.lt_or_ge k i with h5 | h5
          · exact hdis j k x y h1 h5 h3 h4
          · obtain rfl : k = i := by omega
            rw [hx] at h4
            cases h4
            cases hbb : bytesBeq x.data.toList s.data.toList with
            | false => rfl
            | true => rw [hkey.2 ⟨j, x, h1, h3, hbb⟩] at hk; cases hk
  · repeat (first | refine zA ?_ | refine zB ?_ | refine zC ?_ | refine zD ?_ | refine zE ?_ | refine zF ?_ | refine zG rfl ?_ | refine zH ?_ | refine zI ?_ | refine zJ ?_ | refine zK ?_ | refine zL ?_ | refine zM ?_ | refine zN ?_ | refine zO ?_)
    have hA : ∀ s, s ∈ l → namedB s = true := all_end hall (by omega)
    have hD : ∀ (i j : Nat) a b, i < j → l[i]? = some a → l[j]? = some b → bytesBeq a.data.toList b.data.toList = false := fun j k x y h1 h2 h3 => hdis j k x y h1 (by have := (List.getElem?_eq_some_iff.1 h3).1; omega) h2 h3
    repeat' (first | refine zT rfl rfl rfl rfl rfl rfl (cbin_inc (by omega)) ?_ | refine zZ rfl rfl rfl rfl rfl (fun _ => ?_) (fun _ => ?_) | refine zP rfl rfl rfl rfl rfl ?_ | refine zQ rfl rfl rfl ?_ | refine zR rfl rfl rfl rfl rfl (by first | assumption | exact cload_of (by assumption) rfl) ?_ | refine zS rfl rfl rfl rfl rfl rfl rfl rfl (by first | exact SlA.len (by assumption) rfl | exact Sl.map (by assumption) rfl | exact Sl.len (by assumption) rfl) ?_)
    all_goals (refine pops.nil ?_)
    all_goals (repeat (first | refine zA ?_ | refine zB ?_ | refine zC ?_ | refine zD ?_ | refine zE ?_ | refine zF ?_ | refine zG rfl ?_ | refine zH ?_ | refine zI ?_ | refine zJ ?_ | refine zK ?_ | refine zL ?_ | refine zM ?_ | refine zN ?_ | refine zO ?_))
    all_goals (refine pleave.r rfl ?_)
    · rename_i q1 q2
      simp at q1 q2
      exact ⟨⟨_, by rw [tt_t (p := NamesQ l) ⟨hA, hD, by omega, by omega⟩]⟩, hg⟩
    · rename_i q1 q2
      simp at q1 q2
      exact ⟨⟨_, by rw [tt_f (p := NamesQ l) (fun hN => by have := hN.2.2.2; omega)]⟩, hg⟩
    · rename_i q1
      simp at q1
      exact ⟨⟨_, by rw [tt_f (p := NamesQ l) (fun hN => by have := hN.2.2.1; revert this q1; clear hD hA hall hdis hes; cases l <;> simp <;> omega)]⟩, hg⟩
theorem all_nextI {α : Type} {l : List α} {P : Nat → α → Prop} {i : Nat} {c : α} (hall : ∀ (j : Nat) y, j < i → l[j]? = some y → P j y) (hc : l[i]? = some c) (hp : P i c) : ∀ (j : Nat) y, j < i + 1 → l[j]? = some y → P j y := by
  intro j y hj hy
  rcases Nat.lt_or_ge j i with h1 | h1
  · exact hall j y h1 hy
  · obtain rfl : j = i := by omega
    rw [hc] at hy; cases hy; exact hp
theorem fn_propValid : tab.fn 36 = some Tryz.f36 := by kernel_rfl
theorem propValid_calls {v : Value} {p : PropD} (hv : PropV tab ks.str 64 h v p) (hlen : TextsLt p.names) : CalF (X w) 36 [v] h fun r h' => r = .ret (.bool (tt (PropP p))) ∧ Gr h h' := by
  refine CalF.wf fun hwf => ?_
  obtain ⟨c, s, rfl, oc, os, hn, hs⟩ := hv
  have hslt := hs.1
  rw [List.length_map] at hslt
  refine CalF.intro fn_propValid rfl (Nat.le_of_ble_eq_true rfl) ?_
  repeat (first | refine zA ?_ | refine zB ?_ | refine zC ?_ | refine zD ?_ | refine zE ?_ | refine zF ?_ | refine zG rfl ?_ | refine zH ?_ | refine zI ?_ | refine zJ ?_ | refine zK ?_ | refine zL ?_ | refine zM ?_ | refine zN ?_ | refine zO ?_)
  refine pops.box (cs := [c, s]) rfl rfl rfl rfl (by simp [oc, os]) rfl rfl hwf fun b h1 hb hwf1 g1 hc => ?_
  refine zP rfl rfl rfl rfl rfl ?_
  refine pops.nil ?_
  repeat (first | refine zA ?_ | refine zB ?_ | refine zC ?_ | refine zD ?_ | refine zE ?_ | refine zF ?_ | refine zG rfl ?_ | refine zH ?_ | refine zI ?_ | refine zJ ?_ | refine zK ?_ | refine zL ?_ | refine zM ?_ | refine zN ?_ | refine zO ?_)
  repeat (first | refine zT rfl rfl rfl rfl rfl rfl (cbin_inc (by omega)) ?_ | refine zP rfl rfl rfl rfl rfl ?_ | refine zQ rfl rfl rfl ?_ | refine zR rfl rfl rfl rfl rfl (by first | assumption | exact cload_of (by assumption) rfl) ?_ | refine zS rfl rfl rfl rfl rfl rfl rfl rfl (by first | exact SlA.len (by assumption) rfl | exact Sl.map (by assumption) rfl | exact Sl.len (by assumption) rfl) ?_)
  refine pops.callV rfl rfl rfl rfl rfl fn_pindices rfl rfl ((pindices_calls (Sl.gr hn hwf g1) hlen).monoW fun r h2 hwf2 hh => ?_)
  obtain ⟨⟨m, rfl⟩, g2⟩ := hh
  replace hc := g2.at hwf1 hc
  have g02 := g1.trans g2
  refine ⟨_, rfl, ?_⟩
  cases hN : tt (NamesQ p.names) with
  | false =>
    repeat (first | refine zT rfl rfl rfl rfl rfl rfl (cbin_inc (by omega)) ?_ | refine zP rfl rfl rfl rfl rfl ?_ | refine zQ rfl rfl rfl ?_ | refine zR rfl rfl rfl rfl rfl (by first | assumption | exact cload_of (by assumption) rfl) ?_ | refine zS rfl rfl rfl rfl rfl rfl rfl rfl (by first | exact SlA.len (by assumption) rfl | exact Sl.map (by assumption) rfl | exact Sl.len (by assumption) rfl) ?_)
    refine pops.nil ?_
    repeat (first | refine zA ?_ | refine zB ?_ | refine zC ?_ | refine zD ?_ | refine zE ?_ | refine zF ?_ | refine zG rfl ?_ | refine zH ?_ | refine zI ?_ | refine zJ ?_ | refine zK ?_ | refine zL ?_ | refine zM ?_ | refine zN ?_ | refine zO ?_)
    repeat (first | refine zT rfl rfl rfl rfl rfl rfl (cbin_inc (by omega)) ?_ | refine zP rfl rfl rfl rfl rfl ?_ | refine zQ rfl rfl rfl ?_ | refine zR rfl rfl rfl rfl rfl (by first | assumption | exact cload_of (by assumption) rfl) ?_ | refine zS rfl rfl rfl rfl rfl rfl rfl rfl (by first | exact SlA.len (by assumption) rfl | exact Sl.map (by assumption) rfl | exact Sl.len (by assumption) rfl) ?_)
    refine pops.nil ?_
    repeat (first | refine zA ?_ | refine zB ?_ | refine zC ?_ | refine zD ?_ | refine zE ?_ | refine zF ?_ | refine zG rfl ?_ | refine zH ?_ | refine zI ?_ | refine zJ ?_ | refine zK ?_ | refine zL ?_ | refine zM ?_ | refine zN ?_ | refine zO ?_)
    refine pcond.t rfl ?_
    repeat (first | refine zA ?_ | refine zB ?_ | refine zC ?_ | refine zD ?_ | refine zE ?_ | refine zF ?_ | refine zG rfl ?_ | refine zH ?_ | refine zI ?_ | refine zJ ?_ | refine zK ?_ | refine zL ?_ | refine zM ?_ | refine zN ?_ | refine zO ?_)
    repeat (first | refine zT rfl rfl rfl rfl rfl rfl (cbin_inc (by omega)) ?_ | refine zP rfl rfl rfl rfl rfl ?_ | refine zQ rfl rfl rfl ?_ | refine zR rfl rfl rfl rfl rfl (by first | assumption | exact cload_of (by assumption) rfl) ?_ | refine zS rfl rfl rfl rfl rfl rfl rfl rfl (by first | exact SlA.len (by assumption) rfl | exact Sl.map (by assumption) rfl | exact Sl.len (by assumption) rfl) ?_)
    refine pops.nil ?_
    repeat (first | refine zA ?_ | refine zB ?_ | refine zC ?_ | refine zD ?_ | refine zE ?_ | refine zF ?_ | refine zG rfl ?_ | refine zH ?_ | refine zI ?_ | refine zJ ?_ | refine zK ?_ | refine zL ?_ | refine zM ?_ | refine zN ?_ | refine zO ?_)
    refine pleave.r rfl ?_
    refine ⟨?_, g02⟩
    rw [tt_f (p := PropP p) (fun hP => by rw [tt_t hP.1] at hN; cases hN)]
  | true =>
  have hN := tt_iff.1 hN
  replace hn := Sl.gr hn hwf g02
  replace hs := Sl.gr hs hwf g02
  repeat (first | refine zT rfl rfl rfl rfl rfl rfl (cbin_inc (by omega)) ?_ | refine zP rfl rfl rfl rfl rfl ?_ | refine zQ rfl rfl rfl ?_ | refine zR rfl rfl rfl rfl rfl (by first | assumption | exact cload_of (by assumption) rfl) ?_ | refine zS rfl rfl rfl rfl rfl rfl rfl rfl (by first | exact SlA.len (by assumption) rfl | exact Sl.map (by assumption) rfl | exact Sl.len (by assumption) rfl) ?_)
  refine pops.nil ?_
  repeat (first | refine zA ?_ | refine zB ?_ | refine zC ?_ | refine zD ?_ | refine zE ?_ | refine zF ?_ | refine zG rfl ?_ | refine zH ?_ | refine zI ?_ | refine zJ ?_ | refine zK ?_ | refine zL ?_ | refine zM ?_ | refine zN ?_ | refine zO ?_)
  repeat (first | refine zT rfl rfl rfl rfl rfl rfl (cbin_inc (by omega)) ?_ | refine zP rfl rfl rfl rfl rfl ?_ | refine zQ rfl rfl rfl ?_ | refine zR rfl rfl rfl rfl rfl (by first | assumption | exact cload_of (by assumption) rfl) ?_ | refine zS rfl rfl rfl rfl rfl rfl rfl rfl (by first | exact SlA.len (by assumption) rfl | exact Sl.map (by assumption) rfl | exact Sl.len (by assumption) rfl) ?_)
  refine pops.nil ?_
  repeat (first | refine zA ?_ | refine zB ?_ | refine zC ?_ | refine zD ?_ | refine zE ?_ | refine zF ?_ | refine zG rfl ?_ | refine zH ?_ | refine zI ?_ | refine zJ ?_ | refine zK ?_ | refine zL ?_ | refine zM ?_ | refine zN ?_ | refine zO ?_)
  refine pcond.f rfl ?_
  repeat (first | refine zA ?_ | refine zB ?_ | refine zC ?_ | refine zD ?_ | refine zE ?_ | refine zF ?_ | refine zG rfl ?_ | refine zH ?_ | refine zI ?_ | refine zJ ?_ | refine zK ?_ | refine zL ?_ | refine zM ?_ | refine zN ?_ | refine zO ?_)
  refine zP rfl rfl rfl rfl rfl ?_
  refine zR rfl rfl rfl rfl rfl (by first | assumption | exact cload_of (by assumption) rfl) ?_
  refine zS rfl rfl rfl rfl rfl rfl rfl rfl (Sl.map hs rfl) ?_
  refine zP rfl rfl rfl rfl rfl ?_
  refine pops.nil ?_
  repeat (first | refine zA ?_ | refine zB ?_ | refine zC ?_ | refine zD ?_ | refine zE ?_ | refine zF ?_ | refine zG rfl ?_ | refine zH ?_ | refine zI ?_ | refine zJ ?_ | refine zK ?_ | refine zL ?_ | refine zM ?_ | refine zN ?_ | refine zO ?_)
  refine Loops.ind 7 (fun i : Nat => [(1, .pointer (some ⟨b, 0, none⟩)), (2, .bool false), (17, s), (18, .int .i64 (p.spans.length : Nat)), (19, .int .i64 (i : Nat))])
    (fun i h' => i ≤ p.spans.length ∧ Gr h2 h' ∧ ∀ (j : Nat) x, j < i → p.spans[j]? = some x → SpanAt p j x) (fun i => p.spans.length - i) 0 (by decide) ⟨rfl, rfl, rfl, rfl, rfl, trivial⟩ ⟨Nat.zero_le _, Gr.refl _, fun j x hj => absurd hj (Nat.not_lt_zero j)⟩ ?_
  rintro i z h' hwf' ⟨hi, g, hall⟩
  replace hc := g.at hwf2 hc
  replace hn := Sl.gr hn hwf2 g
  replace hs := Sl.gr hs hwf2 g
  repeat (first | refine zA ?_ | refine zB ?_ | refine zC ?_ | refine zD ?_ | refine zE ?_ | refine zF ?_ | refine zG rfl ?_ | refine zH ?_ | refine zI ?_ | refine zJ ?_ | refine zK ?_ | refine zL ?_ | refine zM ?_ | refine zN ?_ | refine zO ?_)
  repeat (first | refine zT rfl rfl rfl rfl rfl rfl (cbin_inc (by omega)) ?_ | refine zP rfl rfl rfl rfl rfl ?_ | refine zQ rfl rfl rfl ?_ | refine zR rfl rfl rfl rfl rfl (by first | assumption | exact cload_of (by assumption) rfl) ?_ | refine zS rfl rfl rfl rfl rfl rfl rfl rfl (by first | exact SlA.len (by assumption) rfl | exact Sl.map (by assumption) rfl | exact Sl.len (by assumption) rfl) ?_)
  refine pops.nil ?_
  repeat (first | refine zA ?_ | refine zB ?_ | refine zC ?_ | refine zD ?_ | refine zE ?_ | refine zF ?_ | refine zG rfl ?_ | refine zH ?_ | refine zI ?_ | refine zJ ?_ | refine zK ?_ | refine zL ?_ | refine zM ?_ | refine zN ?_ | refine zO ?_)
  refine pcond.d (p := (i : Int) < (p.spans.length : Nat)) rfl (fun hlt => ?_) (fun hge => ?_)
  · have hlt : i < p.spans.length := by omega
    obtain ⟨x, hx⟩ : ∃ x, p.spans[i]? = some x := ⟨_, List.getElem?_eq_getElem hlt⟩
    have bad : ¬ SpanAt p i x → tt (PropP p) = false := fun hn => tt_f fun hP => hn (hP.2 i x hx)
    repeat (first | refine zA ?_ | refine zB ?_ | refine zC ?_ | refine zD ?_ | refine zE ?_ | refine zF ?_ | refine zG rfl ?_ | refine zH ?_ | refine zI ?_ | refine zJ ?_ | refine zK ?_ | refine zL ?_ | refine zM ?_ | refine zN ?_ | refine zO ?_)
    refine zP rfl rfl rfl rfl rfl ?_
    refine pops.atI (f := spanV) rfl rfl rfl rfl rfl rfl rfl hs hx fun q hq => ?_
    refine zR rfl rfl rfl rfl rfl (by first | assumption | exact cload_of (by assumption) rfl) ?_
    refine pops.alloc rfl rfl rfl rfl rfl hwf' fun bx h3 hbx hwf3 g3 hcx => ?_
    refine zP rfl rfl rfl rfl rfl ?_
    refine pops.store (cs' := [.int .i64 x.lo, .int .i64 x.hi, .int .i64 x.value]) rfl rfl rfl rfl rfl hcx rfl rfl rfl rfl hwf3 fun h4 hwf4 u4 hcx4 => ?_
    have g4 := g3.upd hbx u4
    have hbx4 := CH.lt hwf4 hcx4
    replace hc := g4.at hwf' hc
    replace hn := Sl.gr hn hwf' g4
    replace hs := Sl.gr hs hwf' g4
    clear hcx
    refine pops.nil ?_
    repeat (first | refine zA ?_ | refine zB ?_ | refine zC ?_ | refine zD ?_ | refine zE ?_ | refine zF ?_ | refine zG rfl ?_ | refine zH ?_ | refine zI ?_ | refine zJ ?_ | refine zK ?_ | refine zL ?_ | refine zM ?_ | refine zN ?_ | refine zO ?_)
    refine zR rfl rfl rfl rfl rfl (by first | assumption | exact cload_of (by assumption) rfl) ?_
    refine pops.callG rfl rfl rfl rfl rfl fn_inside rfl rfl rfl (inside_calls x) fun h5 hwf5 g5 => ?_
    replace hc := g5.at hwf4 hc
    replace hcx4 := g5.at hwf4 hcx4
    replace hn := Sl.gr hn hwf4 g5
    replace hs := Sl.gr hs hwf4 g5
    have g05 := (g.trans g4).trans g5
    cases hd : decide (0 ≤ x.lo ∧ x.lo ≤ x.hi ∧ x.hi ≤ 1114111) with
    | false =>
      have hd := of_decide_eq_false hd
      repeat (first | refine zT rfl rfl rfl rfl rfl rfl (cbin_inc (by omega)) ?_ | refine zP rfl rfl rfl rfl rfl ?_ | refine zQ rfl rfl rfl ?_ | refine zR rfl rfl rfl rfl rfl (by first | assumption | exact cload_of (by assumption) rfl) ?_ | refine zS rfl rfl rfl rfl rfl rfl rfl rfl (by first | exact SlA.len (by assumption) rfl | exact Sl.map (by assumption) rfl | exact Sl.len (by assumption) rfl) ?_)
      refine pops.nil ?_
      repeat (first | refine zA ?_ | refine zB ?_ | refine zC ?_ | refine zD ?_ | refine zE ?_ | refine zF ?_ | refine zG rfl ?_ | refine zH ?_ | refine zI ?_ | refine zJ ?_ | refine zK ?_ | refine zL ?_ | refine zM ?_ | refine zN ?_ | refine zO ?_)
      refine pcond.t rfl ?_
      repeat (first | refine zA ?_ | refine zB ?_ | refine zC ?_ | refine zD ?_ | refine zE ?_ | refine zF ?_ | refine zG rfl ?_ | refine zH ?_ | refine zI ?_ | refine zJ ?_ | refine zK ?_ | refine zL ?_ | refine zM ?_ | refine zN ?_ | refine zO ?_)
      repeat (first | refine zT rfl rfl rfl rfl rfl rfl (cbin_inc (by omega)) ?_ | refine zP rfl rfl rfl rfl rfl ?_ | refine zQ rfl rfl rfl ?_ | refine zR rfl rfl rfl rfl rfl (by first | assumption | exact cload_of (by assumption) rfl) ?_ | refine zS rfl rfl rfl rfl rfl rfl rfl rfl (by first | exact SlA.len (by assumption) rfl | exact Sl.map (by assumption) rfl | exact Sl.len (by assumption) rfl) ?_)
      refine pops.nil ?_
      repeat (first | refine zA ?_ | refine zB ?_ | refine zC ?_ | refine zD ?_ | refine zE ?_ | refine zF ?_ | refine zG rfl ?_ | refine zH ?_ | refine zI ?_ | refine zJ ?_ | refine zK ?_ | refine zL ?_ | refine zM ?_ | refine zN ?_ | refine zO ?_)
      refine pleave.r rfl ?_
      refine ⟨?_, g02.trans g05⟩
      rw [bad fun hs => hd ⟨hs.1, hs.2.1, hs.2.2.1⟩]
    | true =>
    have hd := of_decide_eq_true hd
    repeat (first | refine zT rfl rfl rfl rfl rfl rfl (cbin_inc (by omega)) ?_ | refine zY rfl rfl rfl rfl rfl rfl ?_ | refine zQ rfl rfl rfl ?_ | refine zR rfl rfl rfl rfl rfl (by first | assumption | exact cload_of (by assumption) rfl) ?_ | refine zS rfl rfl rfl rfl rfl rfl rfl rfl (by first | exact SlA.len (by assumption) rfl | exact Sl.map (by assumption) rfl | exact Sl.len (by assumption) rfl) ?_)
    refine zZ rfl rfl rfl rfl rfl (fun q1 => ?_) (fun q1 => ?_)
    · have q1 := of_decide_eq_true q1
      repeat (first | refine zT rfl rfl rfl rfl rfl rfl (cbin_inc (by omega)) ?_ | refine zP rfl rfl rfl rfl rfl ?_ | refine zQ rfl rfl rfl ?_ | refine zR rfl rfl rfl rfl rfl (by first | assumption | exact cload_of (by assumption) rfl) ?_ | refine zS rfl rfl rfl rfl rfl rfl rfl rfl (by first | exact SlA.len (by assumption) rfl | exact Sl.map (by assumption) rfl | exact Sl.len (by assumption) rfl) ?_)
      refine pops.nil ?_
      repeat (first | refine zA ?_ | refine zB ?_ | refine zC ?_ | refine zD ?_ | refine zE ?_ | refine zF ?_ | refine zG rfl ?_ | refine zH ?_ | refine zI ?_ | refine zJ ?_ | refine zK ?_ | refine zL ?_ | refine zM ?_ | refine zN ?_ | refine zO ?_)
      refine pcond.t rfl ?_
      repeat (first | refine zA ?_ | refine zB ?_ | refine zC ?_ | refine zD ?_ | refine zE ?_ | refine zF ?_ | refine zG rfl ?_ | refine zH ?_ | refine zI ?_ | refine zJ ?_ | refine zK ?_ | refine zL ?_ | refine zM ?_ | refine zN ?_ | refine zO ?_)
      repeat (first | refine zT rfl rfl rfl rfl rfl rfl (cbin_inc (by omega)) ?_ | refine zP rfl rfl rfl rfl rfl ?_ | refine zQ rfl rfl rfl ?_ | refine zR rfl rfl rfl rfl rfl (by first | assumption | exact cload_of (by assumption) rfl) ?_ | refine zS rfl rfl rfl rfl rfl rfl rfl rfl (by first | exact SlA.len (by assumption) rfl | exact Sl.map (by assumption) rfl | exact Sl.len (by assumption) rfl) ?_)
      refine pops.nil ?_
      repeat (first | refine zA ?_ | refine zB ?_ | refine zC ?_ | refine zD ?_ | refine zE ?_ | refine zF ?_ | refine zG rfl ?_ | refine zH ?_ | refine zI ?_ | refine zJ ?_ | refine zK ?_ | refine zL ?_ | refine zM ?_ | refine zN ?_ | refine zO ?_)
      refine pleave.r rfl ?_
      refine ⟨?_, g02.trans g05⟩
      rw [bad fun hs => by have := hs.2.2.2.1; omega]
    have q1 := of_decide_eq_false q1
    repeat (first | refine zT rfl rfl rfl rfl rfl rfl (cbin_inc (by omega)) ?_ | refine zY rfl rfl rfl rfl rfl rfl ?_ | refine zQ rfl rfl rfl ?_ | refine zR rfl rfl rfl rfl rfl (by first | assumption | exact cload_of (by assumption) rfl) ?_ | refine zS rfl rfl rfl rfl rfl rfl rfl rfl (by first | exact SlA.len (by assumption) rfl | exact Sl.map (by assumption) rfl | exact Sl.len (by assumption) rfl) ?_)
    refine zZ rfl rfl rfl rfl rfl (fun q2 => ?_) (fun q2 => ?_)
    · have q2 := of_decide_eq_true q2
      repeat (first | refine zT rfl rfl rfl rfl rfl rfl (cbin_inc (by omega)) ?_ | refine zP rfl rfl rfl rfl rfl ?_ | refine zQ rfl rfl rfl ?_ | refine zR rfl rfl rfl rfl rfl (by first | assumption | exact cload_of (by assumption) rfl) ?_ | refine zS rfl rfl rfl rfl rfl rfl rfl rfl (by first | exact SlA.len (by assumption) rfl | exact Sl.map (by assumption) rfl | exact Sl.len (by assumption) rfl) ?_)
      refine pops.nil ?_
      repeat (first | refine zA ?_ | refine zB ?_ | refine zC ?_ | refine zD ?_ | refine zE ?_ | refine zF ?_ | refine zG rfl ?_ | refine zH ?_ | refine zI ?_ | refine zJ ?_ | refine zK ?_ | refine zL ?_ | refine zM ?_ | refine zN ?_ | refine zO ?_)
      refine pcond.t rfl ?_
      repeat (first | refine zA ?_ | refine zB ?_ | refine zC ?_ | refine zD ?_ | refine zE ?_ | refine zF ?_ | refine zG rfl ?_ | refine zH ?_ | refine zI ?_ | refine zJ ?_ | refine zK ?_ | refine zL ?_ | refine zM ?_ | refine zN ?_ | refine zO ?_)
      repeat (first | refine zT rfl rfl rfl rfl rfl rfl (cbin_inc (by omega)) ?_ | refine zP rfl rfl rfl rfl rfl ?_ | refine zQ rfl rfl rfl ?_ | refine zR rfl rfl rfl rfl rfl (by first | assumption | exact cload_of (by assumption) rfl) ?_ | refine zS rfl rfl rfl rfl rfl rfl rfl rfl (by first | exact SlA.len (by assumption) rfl | exact Sl.map (by assumption) rfl | exact Sl.len (by assumption) rfl) ?_)
      refine pops.nil ?_
      repeat (first | refine zA ?_ | refine zB ?_ | refine zC ?_ | refine zD ?_ | refine zE ?_ | refine zF ?_ | refine zG rfl ?_ | refine zH ?_ | refine zI ?_ | refine zJ ?_ | refine zK ?_ | refine zL ?_ | refine zM ?_ | refine zN ?_ | refine zO ?_)
      refine pleave.r rfl ?_
      refine ⟨?_, g02.trans g05⟩
      rw [bad fun hs => by have := hs.2.2.2.2.1; omega]
    have q2 := of_decide_eq_false q2
    repeat (first | refine zT rfl rfl rfl rfl rfl rfl (cbin_inc (by omega)) ?_ | refine zP rfl rfl rfl rfl rfl ?_ | refine zQ rfl rfl rfl ?_ | refine zR rfl rfl rfl rfl rfl (by first | assumption | exact cload_of (by assumption) rfl) ?_ | refine zS rfl rfl rfl rfl rfl rfl rfl rfl (by first | exact SlA.len (by assumption) rfl | exact Sl.map (by assumption) rfl | exact Sl.len (by assumption) rfl) ?_)
    refine pops.nil ?_
    repeat (first | refine zA ?_ | refine zB ?_ | refine zC ?_ | refine zD ?_ | refine zE ?_ | refine zF ?_ | refine zG rfl ?_ | refine zH ?_ | refine zI ?_ | refine zJ ?_ | refine zK ?_ | refine zL ?_ | refine zM ?_ | refine zN ?_ | refine zO ?_)
    refine pcond.f rfl ?_
    repeat (first | refine zA ?_ | refine zB ?_ | refine zC ?_ | refine zD ?_ | refine zE ?_ | refine zF ?_ | refine zG rfl ?_ | refine zH ?_ | refine zI ?_ | refine zJ ?_ | refine zK ?_ | refine zL ?_ | refine zM ?_ | refine zN ?_ | refine zO ?_)
    repeat (first | refine zT rfl rfl rfl rfl rfl rfl (cbin_inc (by omega)) ?_ | refine zY rfl rfl rfl rfl rfl rfl ?_ | refine zQ rfl rfl rfl ?_ | refine zR rfl rfl rfl rfl rfl (by first | assumption | exact cload_of (by assumption) rfl) ?_ | refine zS rfl rfl rfl rfl rfl rfl rfl rfl (by first | exact SlA.len (by assumption) rfl | exact Sl.map (by assumption) rfl | exact Sl.len (by assumption) rfl) ?_)
    rcases Nat.eq_zero_or_pos i with hi0 | hi0
    · refine zZ rfl rfl rfl rfl rfl (fun q3 => ?_) (fun q3 => ?_)
      rotate_left
      · have q3 := of_decide_eq_false q3
        omega
      refine pops.nil ?_
      repeat (first | refine zA ?_ | refine zB ?_ | refine zC ?_ | refine zD ?_ | refine zE ?_ | refine zF ?_ | refine zG rfl ?_ | refine zH ?_ | refine zI ?_ | refine zJ ?_ | refine zK ?_ | refine zL ?_ | refine zM ?_ | refine zN ?_ | refine zO ?_)
      refine pcond.t rfl ?_
      repeat (first | refine zA ?_ | refine zB ?_ | refine zC ?_ | refine zD ?_ | refine zE ?_ | refine zF ?_ | refine zG rfl ?_ | refine zH ?_ | refine zI ?_ | refine zJ ?_ | refine zK ?_ | refine zL ?_ | refine zM ?_ | refine zN ?_ | refine zO ?_)
      repeat (first | refine zT rfl rfl rfl rfl rfl rfl (cbin_inc (by omega)) ?_ | refine zP rfl rfl rfl rfl rfl ?_ | refine zQ rfl rfl rfl ?_ | refine zR rfl rfl rfl rfl rfl (by first | assumption | exact cload_of (by assumption) rfl) ?_ | refine zS rfl rfl rfl rfl rfl rfl rfl rfl (by first | exact SlA.len (by assumption) rfl | exact Sl.map (by assumption) rfl | exact Sl.len (by assumption) rfl) ?_)
      refine pops.nil ?_
      refine .n ⟨_, i + 1, rfl, ⟨rfl, rfl, rfl, rfl, rfl, trivial⟩, (by show p.spans.length - (i + 1) < p.spans.length - i; omega), by omega, g05, all_nextI hall hx ⟨hd.1, hd.2.1, hd.2.2, by omega, by omega, fun y h0 _ => by omega⟩⟩
    · refine zZ rfl rfl rfl rfl rfl (fun q3 => ?_) (fun q3 => ?_)
      · have q3 := of_decide_eq_true q3
        omega
      obtain ⟨y, hy⟩ : ∃ y, p.spans[i - 1]? = some y := ⟨_, List.getElem?_eq_getElem (by omega)⟩
      have hY := hall (i - 1) y (by omega) hy
      refine pops.nil ?_
      repeat (first | refine zA ?_ | refine zB ?_ | refine zC ?_ | refine zD ?_ | refine zE ?_ | refine zF ?_ | refine zG rfl ?_ | refine zH ?_ | refine zI ?_ | refine zJ ?_ | refine zK ?_ | refine zL ?_ | refine zM ?_ | refine zN ?_ | refine zO ?_)
      refine pcond.f rfl ?_
      repeat (first | refine zA ?_ | refine zB ?_ | refine zC ?_ | refine zD ?_ | refine zE ?_ | refine zF ?_ | refine zG rfl ?_ | refine zH ?_ | refine zI ?_ | refine zJ ?_ | refine zK ?_ | refine zL ?_ | refine zM ?_ | refine zN ?_ | refine zO ?_)
      refine zP rfl rfl rfl rfl rfl ?_
      refine zR rfl rfl rfl rfl rfl (by first | assumption | exact cload_of (by assumption) rfl) ?_
      refine zP rfl rfl rfl rfl rfl ?_
      refine zT rfl rfl rfl rfl rfl rfl (cbin_dec hi0 (by omega)) ?_
      refine pops.atI (f := spanV) rfl rfl rfl rfl rfl rfl rfl hs hy fun q4 hq4 => ?_
      refine zR rfl rfl rfl rfl rfl (by first | assumption | exact cload_of (by assumption) rfl) ?_
      refine pops.alloc rfl rfl rfl rfl rfl hwf5 fun by_ h6 hby hwf6 g6 hcy => ?_
      refine pops.store (cs' := [.int .i64 y.lo, .int .i64 y.hi, .int .i64 y.value]) rfl rfl rfl rfl rfl hcy rfl rfl rfl rfl hwf6 fun h7 hwf7 u7 hcy7 => ?_
      have g7 := g6.upd hby u7
      replace hc := g7.at hwf5 hc
      have hcx7 := g7.at hwf5 hcx4
      replace hn := Sl.gr hn hwf5 g7
      replace hs := Sl.gr hs hwf5 g7
      have g07 := g05.trans g7
      clear hcy hcx4
      refine pops.nil ?_
      repeat (first | refine zA ?_ | refine zB ?_ | refine zC ?_ | refine zD ?_ | refine zE ?_ | refine zF ?_ | refine zG rfl ?_ | refine zH ?_ | refine zI ?_ | refine zJ ?_ | refine zK ?_ | refine zL ?_ | refine zM ?_ | refine zN ?_ | refine zO ?_)
      have next : (y.hi < x.lo ∧ (y.hi + 1 = x.lo → y.value ≠ x.value)) → ∀ (j : Nat) x, j < i + 1 → p.spans[j]? = some x → SpanAt p j x := fun hh => all_nextI hall hx ⟨hd.1, hd.2.1, hd.2.2, by omega, by omega, fun y' _ hy' => by rw [hy] at hy'; cases hy'; exact hh⟩
      have bad2 : ¬ (y.hi < x.lo ∧ (y.hi + 1 = x.lo → y.value ≠ x.value)) → tt (PropP p) = false := fun hn => bad fun hs => hn (hs.2.2.2.2.2 y hi0 hy)
      have hyb : y.hi ≤ 1114111 ∧ 0 ≤ y.hi := ⟨hY.2.2.1, by have := hY.1; have := hY.2.1; omega⟩
      repeat (first | refine zT rfl rfl rfl rfl rfl rfl (cbin_inc (by omega)) ?_ | refine zY rfl rfl rfl rfl rfl rfl ?_ | refine zQ rfl rfl rfl ?_ | refine zR rfl rfl rfl rfl rfl (by first | assumption | exact cload_of (by assumption) rfl) ?_ | refine zS rfl rfl rfl rfl rfl rfl rfl rfl (by first | exact SlA.len (by assumption) rfl | exact Sl.map (by assumption) rfl | exact Sl.len (by assumption) rfl) ?_)
      refine zZ rfl rfl rfl rfl rfl (fun q5 => ?_) (fun q5 => ?_)
      · have q5 := of_decide_eq_true q5
        repeat (first | refine zT rfl rfl rfl rfl rfl rfl (cbin_inc (by omega)) ?_ | refine zP rfl rfl rfl rfl rfl ?_ | refine zQ rfl rfl rfl ?_ | refine zR rfl rfl rfl rfl rfl (by first | assumption | exact cload_of (by assumption) rfl) ?_ | refine zS rfl rfl rfl rfl rfl rfl rfl rfl (by first | exact SlA.len (by assumption) rfl | exact Sl.map (by assumption) rfl | exact Sl.len (by assumption) rfl) ?_)
        refine pops.nil ?_
        repeat (first | refine zA ?_ | refine zB ?_ | refine zC ?_ | refine zD ?_ | refine zE ?_ | refine zF ?_ | refine zG rfl ?_ | refine zH ?_ | refine zI ?_ | refine zJ ?_ | refine zK ?_ | refine zL ?_ | refine zM ?_ | refine zN ?_ | refine zO ?_)
        refine pcond.t rfl ?_
        repeat (first | refine zA ?_ | refine zB ?_ | refine zC ?_ | refine zD ?_ | refine zE ?_ | refine zF ?_ | refine zG rfl ?_ | refine zH ?_ | refine zI ?_ | refine zJ ?_ | refine zK ?_ | refine zL ?_ | refine zM ?_ | refine zN ?_ | refine zO ?_)
        repeat (first | refine zT rfl rfl rfl rfl rfl rfl (cbin_inc (by omega)) ?_ | refine zP rfl rfl rfl rfl rfl ?_ | refine zQ rfl rfl rfl ?_ | refine zR rfl rfl rfl rfl rfl (by first | assumption | exact cload_of (by assumption) rfl) ?_ | refine zS rfl rfl rfl rfl rfl rfl rfl rfl (by first | exact SlA.len (by assumption) rfl | exact Sl.map (by assumption) rfl | exact Sl.len (by assumption) rfl) ?_)
        refine pops.nil ?_
        repeat (first | refine zA ?_ | refine zB ?_ | refine zC ?_ | refine zD ?_ | refine zE ?_ | refine zF ?_ | refine zG rfl ?_ | refine zH ?_ | refine zI ?_ | refine zJ ?_ | refine zK ?_ | refine zL ?_ | refine zM ?_ | refine zN ?_ | refine zO ?_)
        refine pleave.r rfl ?_
        refine ⟨?_, g02.trans g07⟩
        rw [bad2 (by omega)]
      have q5 := of_decide_eq_false q5
      refine zP rfl rfl rfl rfl rfl ?_
      refine zP rfl rfl rfl rfl rfl ?_
      refine zR rfl rfl rfl rfl rfl (by first | assumption | exact cload_of (by assumption) rfl) ?_
      refine zT rfl rfl rfl rfl rfl rfl (cbin_addI (n := y.hi) (m := 1) (by omega) (by omega)) ?_
      repeat (first | refine zT rfl rfl rfl rfl rfl rfl (cbin_inc (by omega)) ?_ | refine zY rfl rfl rfl rfl rfl rfl ?_ | refine zQ rfl rfl rfl ?_ | refine zR rfl rfl rfl rfl rfl (by first | assumption | exact cload_of (by assumption) rfl) ?_ | refine zS rfl rfl rfl rfl rfl rfl rfl rfl (by first | exact SlA.len (by assumption) rfl | exact Sl.map (by assumption) rfl | exact Sl.len (by assumption) rfl) ?_)
      refine zZ rfl rfl rfl rfl rfl (fun q6 => ?_) (fun q6 => ?_)
      · have q6 := of_decide_eq_true q6
        repeat (first | refine zT rfl rfl rfl rfl rfl rfl (cbin_inc (by omega)) ?_ | refine zY rfl rfl rfl rfl rfl rfl ?_ | refine zQ rfl rfl rfl ?_ | refine zR rfl rfl rfl rfl rfl (by first | assumption | exact cload_of (by assumption) rfl) ?_ | refine zS rfl rfl rfl rfl rfl rfl rfl rfl (by first | exact SlA.len (by assumption) rfl | exact Sl.map (by assumption) rfl | exact Sl.len (by assumption) rfl) ?_)
        refine zZ rfl rfl rfl rfl rfl (fun q7 => ?_) (fun q7 => ?_)
        · have q7 := of_decide_eq_true q7
          repeat (first | refine zT rfl rfl rfl rfl rfl rfl (cbin_inc (by omega)) ?_ | refine zP rfl rfl rfl rfl rfl ?_ | refine zQ rfl rfl rfl ?_ | refine zR rfl rfl rfl rfl rfl (by first | assumption | exact cload_of (by assumption) rfl) ?_ | refine zS rfl rfl rfl rfl rfl rfl rfl rfl (by first | exact SlA.len (by assumption) rfl | exact Sl.map (by assumption) rfl | exact Sl.len (by assumption) rfl) ?_)
          refine pops.nil ?_
          repeat (first | refine zA ?_ | refine zB ?_ | refine zC ?_ | refine zD ?_ | refine zE ?_ | refine zF ?_ | refine zG rfl ?_ | refine zH ?_ | refine zI ?_ | refine zJ ?_ | refine zK ?_ | refine zL ?_ | refine zM ?_ | refine zN ?_ | refine zO ?_)
          refine pcond.t rfl ?_
          repeat (first | refine zA ?_ | refine zB ?_ | refine zC ?_ | refine zD ?_ | refine zE ?_ | refine zF ?_ | refine zG rfl ?_ | refine zH ?_ | refine zI ?_ | refine zJ ?_ | refine zK ?_ | refine zL ?_ | refine zM ?_ | refine zN ?_ | refine zO ?_)
          repeat (first | refine zT rfl rfl rfl rfl rfl rfl (cbin_inc (by omega)) ?_ | refine zP rfl rfl rfl rfl rfl ?_ | refine zQ rfl rfl rfl ?_ | refine zR rfl rfl rfl rfl rfl (by first | assumption | exact cload_of (by assumption) rfl) ?_ | refine zS rfl rfl rfl rfl rfl rfl rfl rfl (by first | exact SlA.len (by assumption) rfl | exact Sl.map (by assumption) rfl | exact Sl.len (by assumption) rfl) ?_)
          refine pops.nil ?_
          repeat (first | refine zA ?_ | refine zB ?_ | refine zC ?_ | refine zD ?_ | refine zE ?_ | refine zF ?_ | refine zG rfl ?_ | refine zH ?_ | refine zI ?_ | refine zJ ?_ | refine zK ?_ | refine zL ?_ | refine zM ?_ | refine zN ?_ | refine zO ?_)
          refine pleave.r rfl ?_
          refine ⟨?_, g02.trans g07⟩
          rw [bad2 (fun hh => hh.2 q6 q7)]
        · have q7 := of_decide_eq_false q7
          repeat (first | refine zT rfl rfl rfl rfl rfl rfl (cbin_inc (by omega)) ?_ | refine zP rfl rfl rfl rfl rfl ?_ | refine zQ rfl rfl rfl ?_ | refine zR rfl rfl rfl rfl rfl (by first | assumption | exact cload_of (by assumption) rfl) ?_ | refine zS rfl rfl rfl rfl rfl rfl rfl rfl (by first | exact SlA.len (by assumption) rfl | exact Sl.map (by assumption) rfl | exact Sl.len (by assumption) rfl) ?_)
          refine pops.nil ?_
          repeat (first | refine zA ?_ | refine zB ?_ | refine zC ?_ | refine zD ?_ | refine zE ?_ | refine zF ?_ | refine zG rfl ?_ | refine zH ?_ | refine zI ?_ | refine zJ ?_ | refine zK ?_ | refine zL ?_ | refine zM ?_ | refine zN ?_ | refine zO ?_)
          refine pcond.f rfl ?_
          repeat (first | refine zA ?_ | refine zB ?_ | refine zC ?_ | refine zD ?_ | refine zE ?_ | refine zF ?_ | refine zG rfl ?_ | refine zH ?_ | refine zI ?_ | refine zJ ?_ | refine zK ?_ | refine zL ?_ | refine zM ?_ | refine zN ?_ | refine zO ?_)
          repeat (first | refine zT rfl rfl rfl rfl rfl rfl (cbin_inc (by omega)) ?_ | refine zP rfl rfl rfl rfl rfl ?_ | refine zQ rfl rfl rfl ?_ | refine zR rfl rfl rfl rfl rfl (by first | assumption | exact cload_of (by assumption) rfl) ?_ | refine zS rfl rfl rfl rfl rfl rfl rfl rfl (by first | exact SlA.len (by assumption) rfl | exact Sl.map (by assumption) rfl | exact Sl.len (by assumption) rfl) ?_)
          refine pops.nil ?_
          refine .n ⟨_, i + 1, rfl, ⟨rfl, rfl, rfl, rfl, rfl, trivial⟩, (by show p.spans.length - (i + 1) < p.spans.length - i; omega), by omega, g07, next ⟨by omega, fun _ => q7⟩⟩
      · have q6 := of_decide_eq_false q6
        repeat (first | refine zT rfl rfl rfl rfl rfl rfl (cbin_inc (by omega)) ?_ | refine zP rfl rfl rfl rfl rfl ?_ | refine zQ rfl rfl rfl ?_ | refine zR rfl rfl rfl rfl rfl (by first | assumption | exact cload_of (by assumption) rfl) ?_ | refine zS rfl rfl rfl rfl rfl rfl rfl rfl (by first | exact SlA.len (by assumption) rfl | exact Sl.map (by assumption) rfl | exact Sl.len (by assumption) rfl) ?_)
        refine pops.nil ?_
        repeat (first | refine zA ?_ | refine zB ?_ | refine zC ?_ | refine zD ?_ | refine zE ?_ | refine zF ?_ | refine zG rfl ?_ | refine zH ?_ | refine zI ?_ | refine zJ ?_ | refine zK ?_ | refine zL ?_ | refine zM ?_ | refine zN ?_ | refine zO ?_)
        refine pcond.f rfl ?_
        repeat (first | refine zA ?_ | refine zB ?_ | refine zC ?_ | refine zD ?_ | refine zE ?_ | refine zF ?_ | refine zG rfl ?_ | refine zH ?_ | refine zI ?_ | refine zJ ?_ | refine zK ?_ | refine zL ?_ | refine zM ?_ | refine zN ?_ | refine zO ?_)
        repeat (first | refine zT rfl rfl rfl rfl rfl rfl (cbin_inc (by omega)) ?_ | refine zP rfl rfl rfl rfl rfl ?_ | refine zQ rfl rfl rfl ?_ | refine zR rfl rfl rfl rfl rfl (by first | assumption | exact cload_of (by assumption) rfl) ?_ | refine zS rfl rfl rfl rfl rfl rfl rfl rfl (by first | exact SlA.len (by assumption) rfl | exact Sl.map (by assumption) rfl | exact Sl.len (by assumption) rfl) ?_)
        refine pops.nil ?_
        refine .n ⟨_, i + 1, rfl, ⟨rfl, rfl, rfl, rfl, rfl, trivial⟩, (by show p.spans.length - (i + 1) < p.spans.length - i; omega), by omega, g07, next ⟨by omega, fun hh => absurd hh q6⟩⟩
  · repeat (first | refine zA ?_ | refine zB ?_ | refine zC ?_ | refine zD ?_ | refine zE ?_ | refine zF ?_ | refine zG rfl ?_ | refine zH ?_ | refine zI ?_ | refine zJ ?_ | refine zK ?_ | refine zL ?_ | refine zM ?_ | refine zN ?_ | refine zO ?_)
    repeat (first | refine zT rfl rfl rfl rfl rfl rfl (cbin_inc (by omega)) ?_ | refine zP rfl rfl rfl rfl rfl ?_ | refine zQ rfl rfl rfl ?_ | refine zR rfl rfl rfl rfl rfl (by first | assumption | exact cload_of (by assumption) rfl) ?_ | refine zS rfl rfl rfl rfl rfl rfl rfl rfl (by first | exact SlA.len (by assumption) rfl | exact Sl.map (by assumption) rfl | exact Sl.len (by assumption) rfl) ?_)
    refine pops.nil ?_
    repeat (first | refine zA ?_ | refine zB ?_ | refine zC ?_ | refine zD ?_ | refine zE ?_ | refine zF ?_ | refine zG rfl ?_ | refine zH ?_ | refine zI ?_ | refine zJ ?_ | refine zK ?_ | refine zL ?_ | refine zM ?_ | refine zN ?_ | refine zO ?_)
    refine pleave.r rfl ?_
    refine ⟨?_, g02.trans g⟩
    rw [tt_t (p := PropP p) ⟨hN, fun j x hx => hall j x (by have := (List.getElem?_eq_some_iff.1 hx).1; omega) hx⟩]
end Go.Proofs.YtpcoponpfhnhlaaGreatDoor
set_option maxRecDepth 100000
set_option linter.unusedVariables false
set_option linter.unusedSimpArgs false
namespace Go.Proofs.YtpcoponpfhnhlaaGreatDoor
open Go.Cx
variable {w : World} {h : CH}
end Go.Proofs.YtpcoponpfhnhlaaGreatDoor