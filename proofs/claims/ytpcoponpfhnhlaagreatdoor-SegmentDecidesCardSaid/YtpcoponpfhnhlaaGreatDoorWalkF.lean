/- Walks through the functions that the statement reaches, and the statement. Conditions: none. -/
import Derived.Test.YtpcoponpfhnhlaaGreatDoorWalkE
import Derived.Test.YtpcoponpfhnhlaaGreatDoorWalkB
import Derived.Test.YtpcoponpfhnhlaaGreatDoorCxE
import Derived.Test.YtpcoponpfhnhlaaGreatDoorCards
import Derived.Test.YtpcoponpfhnhlaaGreatDoorTie
import Derived.WalkKit
import Derived.ProofKit
import Derived.OpenShut
import Derived.Deep.DeepHandedRow
set_option maxRecDepth 100000
set_option linter.unusedVariables false
set_option linter.unusedSimpArgs false
namespace Go.Proofs.YtpcoponpfhnhlaaGreatDoor
open Go.Cx
variable {w : World} {h : CH}
theorem equal_same {va vb : Value} {a : List Int} (ha : SlI tab ks.int h va a) (hb : SlI tab ks.int h vb a) : CalF (X w) 16 [va, vb] h fun r h' => r = .ret (.bool true) ∧ Gr h h' :=
  (equal_calls ha hb).mono fun r h' hh => ⟨by rw [hh.1, decide_eq_true rfl], hh.2⟩
theorem few30_le {p : PropD} {t : TabD} {text : List Int} (hf : few30 p t text = true) : text.length ≤ 40 ∧ p.spans.length ≤ 16 := by
  unfold few30 at hf
  simp at hf
  omega
theorem SBoundsS_calls {vp vt vx : Value} {p : PropD} {t : TabD} {text : List Int} (hp : PropV tab ks.str 64 h vp p) (ht : TabV tab ks h vt t) (hxx : SlI tab ks.int h vx text) (hpl : TextsLt p.names) (htl : TextsLt t.classes) (hxl : text.length ≤ 1000) (hsl : p.spans.length < 1000000) :
    CalF (X w) 18 [vp, vt, vx] h fun r h' => (∃ u, r = .ret u ∧ SlI tab ks.int h' u (boundsD p t text)) ∧ Gr h h' :=
  (SBounds_calls hp ht hxx hpl htl hxl hsl).mono fun r h' hh => by
    obtain ⟨⟨u, b', rfl, _, hown⟩, g⟩ := hh
    have := bounds_le (p := p) (t := t) (text := text)
    exact ⟨⟨u, rfl, hown.sl rfl rfl rfl (by rw [List.length_map]; omega)⟩, g⟩
end Go.Proofs.YtpcoponpfhnhlaaGreatDoor
set_option maxRecDepth 100000
set_option linter.unusedVariables false
set_option linter.unusedSimpArgs false
namespace Go.Proofs.YtpcoponpfhnhlaaGreatDoor
open Go.Cx
variable {w : World} {h : CH}
theorem fn_lawDecides30 : tab.fn 8 = some Tryz.f8 := by kernel_rfl
theorem lawDecides30_calls {vp vt vx : Value} {p : PropD} {t : TabD} {text : List Int} (hp : PropV tab ks.str 64 h vp p) (ht : TabV tab ks h vt t) (hxx : SlI tab ks.int h vx text) (hpl : TextsLt p.names) (htl : TextsLt t.classes) :
    CalF (X w) 8 [vp, vt, vx] h fun r h' => r = .ret (.bool true) := by
  refine CalF.wf fun hwf => ?_
  have hpV := hp
  have htV := ht
  obtain ⟨c, s, rfl, oc, os, hpn, hps⟩ := hp
  obtain ⟨c', a, x, y, x', y', rfl, ho, hcl, hac, hx, hy, hx', hy'⟩ := ht
  clear hac hx hy hx' hy' hpn hps hcl
  simp only [Bool.and_eq_true] at ho
  refine CalF.intro fn_lawDecides30 rfl (Nat.le_of_ble_eq_true rfl) ?_
  repeat (first | refine zA ?_ | refine zB ?_ | refine zC ?_ | refine zD ?_ | refine zE ?_ | refine zF ?_ | refine zG rfl ?_ | refine zH ?_ | refine zI ?_ | refine zJ ?_ | refine zK ?_ | refine zL ?_ | refine zM ?_ | refine zN ?_ | refine zO ?_)
  refine pops.box (cs := [c, s]) rfl rfl rfl rfl (by simp [oc, os]) rfl rfl hwf fun b h1 hb hwf1 g1 hc => ?_
  refine pops.box (cs := [c', a, x, y, x', y']) rfl rfl rfl rfl (by simp [ho]) rfl rfl hwf1 fun bt h2 hbt hwf2 g2 hct => ?_
  have g02 := g1.trans g2
  replace hc := g2.at hwf1 hc
  refine zP rfl rfl rfl rfl rfl ?_
  refine pops.nil ?_
  repeat (first | refine zA ?_ | refine zB ?_ | refine zC ?_ | refine zD ?_ | refine zE ?_ | refine zF ?_ | refine zG rfl ?_ | refine zH ?_ | refine zI ?_ | refine zJ ?_ | refine zK ?_ | refine zL ?_ | refine zM ?_ | refine zN ?_ | refine zO ?_)
  refine zR rfl rfl rfl rfl rfl (cload_of hc rfl) ?_
  refine zR rfl rfl rfl rfl rfl (cload_of hct rfl) ?_
  refine zP rfl rfl rfl rfl rfl ?_
  refine pops.callG rfl rfl rfl rfl rfl fn_few30 rfl rfl rfl (few30_calls (hpV.gr hwf g02) (htV.gr hwf g02) (Sl.gr hxx hwf g02)) fun h3 hwf3 g3 => ?_
  replace hc := g3.at hwf2 hc
  replace hct := g3.at hwf2 hct
  have g03 := g02.trans g3
  cases hf : few30 p t text with
  | false =>
    repeat (first | refine zT rfl rfl rfl rfl rfl rfl (cbin_inc (by omega)) ?_ | refine zP rfl rfl rfl rfl rfl ?_ | refine zQ rfl rfl rfl ?_ | refine zR rfl rfl rfl rfl rfl (by first | assumption | exact cload_of (by assumption) rfl) ?_ | refine zS rfl rfl rfl rfl rfl rfl rfl rfl (by first | exact SlA.len (by assumption) rfl | exact Sl.map (by assumption) rfl | exact Sl.len (by assumption) rfl) ?_)
    refine pops.nil ?_
    repeat (first | refine zA ?_ | refine zB ?_ | refine zC ?_ | refine zD ?_ | refine zE ?_ | refine zF ?_ | refine zG rfl ?_ | refine zH ?_ | refine zI ?_ | refine zJ ?_ | refine zK ?_ | refine zL ?_ | refine zM ?_ | refine zN ?_ | refine zO ?_)
    refine pcond.t rfl ?_
    repeat (first | refine zA ?_ | refine zB ?_ | refine zC ?_ | refine zD ?_ | refine zE ?_ | refine zF ?_ | refine zG rfl ?_ | refine zH ?_ | refine zI ?_ | refine zJ ?_ | refine zK ?_ | refine zL ?_ | refine zM ?_ | refine zN ?_ | refine zO ?_)
    refine pops.callG rfl rfl rfl rfl rfl fn_alive rfl rfl rfl alive_calls fun h4 hwf4 g4 => ?_
    repeat (first | refine zT rfl rfl rfl rfl rfl rfl (cbin_inc (by omega)) ?_ | refine zP rfl rfl rfl rfl rfl ?_ | refine zQ rfl rfl rfl ?_ | refine zR rfl rfl rfl rfl rfl (by first | assumption | exact cload_of (by assumption) rfl) ?_ | refine zS rfl rfl rfl rfl rfl rfl rfl rfl (by first | exact SlA.len (by assumption) rfl | exact Sl.map (by assumption) rfl | exact Sl.len (by assumption) rfl) ?_)
    refine pops.nil ?_
    repeat (first | refine zA ?_ | refine zB ?_ | refine zC ?_ | refine zD ?_ | refine zE ?_ | refine zF ?_ | refine zG rfl ?_ | refine zH ?_ | refine zI ?_ | refine zJ ?_ | refine zK ?_ | refine zL ?_ | refine zM ?_ | refine zN ?_ | refine zO ?_)
    refine pleave.r rfl ?_
    rfl
  | true =>
  obtain ⟨hxl, hsl⟩ := few30_le hf
  refine zP rfl rfl rfl rfl rfl ?_
  refine zP rfl rfl rfl rfl rfl ?_
  refine zR rfl rfl rfl rfl rfl (cload_of hct rfl) ?_
  refine pops.callG rfl rfl rfl rfl rfl fn_valid rfl rfl rfl (valid_calls (htV.gr hwf g03) htl) fun h4 hwf4 g4 => ?_
  replace hc := g4.at hwf3 hc
  replace hct := g4.at hwf3 hct
  have g04 := g03.trans g4
  cases hV : tt (ValidP t) with
  | false =>
    repeat (first | refine zT rfl rfl rfl rfl rfl rfl (cbin_inc (by omega)) ?_ | refine zP rfl rfl rfl rfl rfl ?_ | refine zQ rfl rfl rfl ?_ | refine zR rfl rfl rfl rfl rfl (by first | assumption | exact cload_of (by assumption) rfl) ?_ | refine zS rfl rfl rfl rfl rfl rfl rfl rfl (by first | exact SlA.len (by assumption) rfl | exact Sl.map (by assumption) rfl | exact Sl.len (by assumption) rfl) ?_)
    refine pops.nil ?_
    repeat (first | refine zA ?_ | refine zB ?_ | refine zC ?_ | refine zD ?_ | refine zE ?_ | refine zF ?_ | refine zG rfl ?_ | refine zH ?_ | refine zI ?_ | refine zJ ?_ | refine zK ?_ | refine zL ?_ | refine zM ?_ | refine zN ?_ | refine zO ?_)
    refine pcond.t rfl ?_
    repeat (first | refine zA ?_ | refine zB ?_ | refine zC ?_ | refine zD ?_ | refine zE ?_ | refine zF ?_ | refine zG rfl ?_ | refine zH ?_ | refine zI ?_ | refine zJ ?_ | refine zK ?_ | refine zL ?_ | refine zM ?_ | refine zN ?_ | refine zO ?_)
    refine pops.callG rfl rfl rfl rfl rfl fn_alive rfl rfl rfl alive_calls fun h5 hwf5 g5 => ?_
    repeat (first | refine zT rfl rfl rfl rfl rfl rfl (cbin_inc (by omega)) ?_ | refine zP rfl rfl rfl rfl rfl ?_ | refine zQ rfl rfl rfl ?_ | refine zR rfl rfl rfl rfl rfl (by first | assumption | exact cload_of (by assumption) rfl) ?_ | refine zS rfl rfl rfl rfl rfl rfl rfl rfl (by first | exact SlA.len (by assumption) rfl | exact Sl.map (by assumption) rfl | exact Sl.len (by assumption) rfl) ?_)
    refine pops.nil ?_
    repeat (first | refine zA ?_ | refine zB ?_ | refine zC ?_ | refine zD ?_ | refine zE ?_ | refine zF ?_ | refine zG rfl ?_ | refine zH ?_ | refine zI ?_ | refine zJ ?_ | refine zK ?_ | refine zL ?_ | refine zM ?_ | refine zN ?_ | refine zO ?_)
    refine pleave.r rfl ?_
    rfl
  | true =>
  have hV := tt_iff.1 hV
  repeat (first | refine zT rfl rfl rfl rfl rfl rfl (cbin_inc (by omega)) ?_ | refine zP rfl rfl rfl rfl rfl ?_ | refine zQ rfl rfl rfl ?_ | refine zR rfl rfl rfl rfl rfl (by first | assumption | exact cload_of (by assumption) rfl) ?_ | refine zS rfl rfl rfl rfl rfl rfl rfl rfl (by first | exact SlA.len (by assumption) rfl | exact Sl.map (by assumption) rfl | exact Sl.len (by assumption) rfl) ?_)
  refine pops.nil ?_
  repeat (first | refine zA ?_ | refine zB ?_ | refine zC ?_ | refine zD ?_ | refine zE ?_ | refine zF ?_ | refine zG rfl ?_ | refine zH ?_ | refine zI ?_ | refine zJ ?_ | refine zK ?_ | refine zL ?_ | refine zM ?_ | refine zN ?_ | refine zO ?_)
  refine pcond.f rfl ?_
  repeat (first | refine zA ?_ | refine zB ?_ | refine zC ?_ | refine zD ?_ | refine zE ?_ | refine zF ?_ | refine zG rfl ?_ | refine zH ?_ | refine zI ?_ | refine zJ ?_ | refine zK ?_ | refine zL ?_ | refine zM ?_ | refine zN ?_ | refine zO ?_)
  refine zR rfl rfl rfl rfl rfl (cload_of hc rfl) ?_
  refine zR rfl rfl rfl rfl rfl (cload_of hct rfl) ?_
  refine zP rfl rfl rfl rfl rfl ?_
  refine pops.callV rfl rfl rfl rfl rfl fn_SClasses rfl rfl ((SClasses_calls (hpV.gr hwf g04) (htV.gr hwf g04) (Sl.gr hxx hwf g04) hpl htl (by omega) (by omega)).monoW fun r h5 hwf5 hh => ?_)
  obtain ⟨⟨u1, rfl, hu1⟩, g5⟩ := hh
  refine ⟨_, rfl, ?_⟩
  replace hc := g5.at hwf4 hc
  replace hct := g5.at hwf4 hct
  have g05 := g04.trans g5
  repeat (first | refine zT rfl rfl rfl rfl rfl rfl (cbin_inc (by omega)) ?_ | refine zP rfl rfl rfl rfl rfl ?_ | refine zQ rfl rfl rfl ?_ | refine zR rfl rfl rfl rfl rfl (by first | assumption | exact cload_of (by assumption) rfl) ?_ | refine zS rfl rfl rfl rfl rfl rfl rfl rfl (by first | exact SlA.len (by assumption) rfl | exact Sl.map (by assumption) rfl | exact Sl.len (by assumption) rfl) ?_)
  refine pops.nil ?_
  repeat (first | refine zA ?_ | refine zB ?_ | refine zC ?_ | refine zD ?_ | refine zE ?_ | refine zF ?_ | refine zG rfl ?_ | refine zH ?_ | refine zI ?_ | refine zJ ?_ | refine zK ?_ | refine zL ?_ | refine zM ?_ | refine zN ?_ | refine zO ?_)
  refine zR rfl rfl rfl rfl rfl (cload_of hc rfl) ?_
  refine zR rfl rfl rfl rfl rfl (cload_of hct rfl) ?_
  refine zP rfl rfl rfl rfl rfl ?_
  refine pops.callV rfl rfl rfl rfl rfl fn_SActions rfl rfl ((SActions_calls (hpV.gr hwf g05) (htV.gr hwf g05) (Sl.gr hxx hwf g05) hpl htl (by omega) (by omega)).monoW fun r h6 hwf6 hh => ?_)
  obtain ⟨⟨u2, rfl, hu2⟩, g6⟩ := hh
  refine ⟨_, rfl, ?_⟩
  replace hc := g6.at hwf5 hc
  replace hct := g6.at hwf5 hct
  have g06 := g05.trans g6
  replace hu1 := Sl.gr hu1 hwf5 g6
  have hxx6 := Sl.gr hxx hwf g06
  have hU := cls_usable (p := p) (text := text) hV
  have hcll := cls_length (p := p) (text := text) hV
  have hAl := acts_length (p := p) (text := text) hV
  have hbd : boundsD p t text = endsD (ActionsR t (clsD p t text)) := rfl
  have hAg : ∀ i, i ≤ text.length → (ActionsR t (clsD p t text))[i]? = some (DecideR t (clsD p t text) (i : Int)).1 := by
    intro i hi
    unfold ActionsR DecideR
    rw [tt_t hU, cond_true, List.getElem?_map, List.getElem?_range (by omega), tt_t (by exact ⟨by omega, by omega, hU⟩)]
    rfl
  have hll : (clsD p t text).length ≤ 1000 := by omega
  repeat (first | refine zT rfl rfl rfl rfl rfl rfl (cbin_inc (by omega)) ?_ | refine zP rfl rfl rfl rfl rfl ?_ | refine zQ rfl rfl rfl ?_ | refine zR rfl rfl rfl rfl rfl (by first | assumption | exact cload_of (by assumption) rfl) ?_ | refine zS rfl rfl rfl rfl rfl rfl rfl rfl (by first | exact SlA.len (by assumption) rfl | exact Sl.map (by assumption) rfl | exact Sl.len (by assumption) rfl) ?_)
  refine pops.nil ?_
  repeat (first | refine zA ?_ | refine zB ?_ | refine zC ?_ | refine zD ?_ | refine zE ?_ | refine zF ?_ | refine zG rfl ?_ | refine zH ?_ | refine zI ?_ | refine zJ ?_ | refine zK ?_ | refine zL ?_ | refine zM ?_ | refine zN ?_ | refine zO ?_)
  refine zP rfl rfl rfl rfl rfl ?_
  refine zS rfl rfl rfl rfl rfl rfl rfl rfl (SlI.len hu1 rfl) ?_
  refine zP rfl rfl rfl rfl rfl ?_
  refine zS rfl rfl rfl rfl rfl rfl rfl rfl (SlI.len hxx6 rfl) ?_
  refine zZ rfl rfl rfl rfl rfl (fun q => ?_) (fun q => ?_)
  · simp [hcll] at q
  clear q
  refine zP rfl rfl rfl rfl rfl ?_
  refine zP rfl rfl rfl rfl rfl ?_
  refine zS rfl rfl rfl rfl rfl rfl rfl rfl (SlI.len hu2 rfl) ?_
  refine zP rfl rfl rfl rfl rfl ?_
  refine zS rfl rfl rfl rfl rfl rfl rfl rfl (SlI.len hxx6 rfl) ?_
  refine zT rfl rfl rfl rfl rfl rfl (cbin_inc (i := text.length) (by omega)) ?_
  refine zZ rfl rfl rfl rfl rfl (fun q => ?_) (fun q => ?_)
  · simp [hAl] at q
  clear q
  repeat (first | refine zT rfl rfl rfl rfl rfl rfl (cbin_inc (by omega)) ?_ | refine zP rfl rfl rfl rfl rfl ?_ | refine zQ rfl rfl rfl ?_ | refine zR rfl rfl rfl rfl rfl (by first | assumption | exact cload_of (by assumption) rfl) ?_ | refine zS rfl rfl rfl rfl rfl rfl rfl rfl (by first | exact SlA.len (by assumption) rfl | exact Sl.map (by assumption) rfl | exact Sl.len (by assumption) rfl) ?_)
  refine pops.nil ?_
  repeat (first | refine zA ?_ | refine zB ?_ | refine zC ?_ | refine zD ?_ | refine zE ?_ | refine zF ?_ | refine zG rfl ?_ | refine zH ?_ | refine zI ?_ | refine zJ ?_ | refine zK ?_ | refine zL ?_ | refine zM ?_ | refine zN ?_ | refine zO ?_)
  refine pcond.f rfl ?_
  repeat (first | refine zA ?_ | refine zB ?_ | refine zC ?_ | refine zD ?_ | refine zE ?_ | refine zF ?_ | refine zG rfl ?_ | refine zH ?_ | refine zI ?_ | refine zJ ?_ | refine zK ?_ | refine zL ?_ | refine zM ?_ | refine zN ?_ | refine zO ?_)
  repeat (first | refine zT rfl rfl rfl rfl rfl rfl (cbin_inc (by omega)) ?_ | refine zP rfl rfl rfl rfl rfl ?_ | refine zQ rfl rfl rfl ?_ | refine zR rfl rfl rfl rfl rfl (by first | assumption | exact cload_of (by assumption) rfl) ?_ | refine zS rfl rfl rfl rfl rfl rfl rfl rfl (by first | exact SlA.len (by assumption) rfl | exact Sl.map (by assumption) rfl | exact Sl.len (by assumption) rfl) ?_)
  refine pops.nil ?_
  repeat (first | refine zA ?_ | refine zB ?_ | refine zC ?_ | refine zD ?_ | refine zE ?_ | refine zF ?_ | refine zG rfl ?_ | refine zH ?_ | refine zI ?_ | refine zJ ?_ | refine zK ?_ | refine zL ?_ | refine zM ?_ | refine zN ?_ | refine zO ?_)
  refine Loops.ind 7 (fun i : Nat => [(2, vx), (3, .pointer (some ⟨b, 0, none⟩)), (4, .pointer (some ⟨bt, 0, none⟩)), (7, u1), (8, u2), (9, .int .i64 (i : Nat))])
    (fun i h' => i ≤ text.length + 1 ∧ Gr h6 h') (fun i => text.length + 1 - i) 0 (by decide) ⟨rfl, rfl, rfl, rfl, rfl, rfl, trivial⟩ ⟨Nat.zero_le _, Gr.refl _⟩ ?_
  rintro i z h' hwf' ⟨hi, g⟩
  replace hc := g.at hwf6 hc
  replace hct := g.at hwf6 hct
  replace hu1 := Sl.gr hu1 hwf6 g
  replace hu2 := Sl.gr hu2 hwf6 g
  have g07 := g06.trans g
  repeat (first | refine zA ?_ | refine zB ?_ | refine zC ?_ | refine zD ?_ | refine zE ?_ | refine zF ?_ | refine zG rfl ?_ | refine zH ?_ | refine zI ?_ | refine zJ ?_ | refine zK ?_ | refine zL ?_ | refine zM ?_ | refine zN ?_ | refine zO ?_)
  refine zP rfl rfl rfl rfl rfl ?_
  refine zP rfl rfl rfl rfl rfl ?_
  refine zS rfl rfl rfl rfl rfl rfl rfl rfl (SlI.len hu2 rfl) ?_
  refine zP rfl rfl rfl rfl rfl ?_
  refine pops.nil ?_
  repeat (first | refine zA ?_ | refine zB ?_ | refine zC ?_ | refine zD ?_ | refine zE ?_ | refine zF ?_ | refine zG rfl ?_ | refine zH ?_ | refine zI ?_ | refine zJ ?_ | refine zK ?_ | refine zL ?_ | refine zM ?_ | refine zN ?_ | refine zO ?_)
  refine pcond.d (p := (i : Int) < ((ActionsR t (clsD p t text)).length : Nat)) rfl (fun hlt => ?_) (fun hge => ?_)
  · have hil : i ≤ text.length := by omega
    have hAi := hAg i hil
    repeat (first | refine zA ?_ | refine zB ?_ | refine zC ?_ | refine zD ?_ | refine zE ?_ | refine zF ?_ | refine zG rfl ?_ | refine zH ?_ | refine zI ?_ | refine zJ ?_ | refine zK ?_ | refine zL ?_ | refine zM ?_ | refine zN ?_ | refine zO ?_)
    refine zR rfl rfl rfl rfl rfl (cload_of hct rfl) ?_
    refine zP rfl rfl rfl rfl rfl ?_
    refine zP rfl rfl rfl rfl rfl ?_
    refine pops.callG rfl rfl rfl rfl rfl fn_Decide rfl rfl rfl (Decide_calls (i : Int) (htV.gr hwf g07) hu1 htl hll) fun h8 hwf8 g8 => ?_
    replace hu2 := Sl.gr hu2 hwf' g8
    generalize DecideR t (clsD p t text) (i : Int) = D at hAi ⊢
    obtain ⟨da, dr⟩ := D
    simp only at hAi
    repeat (first | refine zT rfl rfl rfl rfl rfl rfl (cbin_inc (by omega)) ?_ | refine zP rfl rfl rfl rfl rfl ?_ | refine zQ rfl rfl rfl ?_ | refine zR rfl rfl rfl rfl rfl (by first | assumption | exact cload_of (by assumption) rfl) ?_ | refine zS rfl rfl rfl rfl rfl rfl rfl rfl (by first | exact SlA.len (by assumption) rfl | exact Sl.map (by assumption) rfl | exact Sl.len (by assumption) rfl) ?_)
    refine pops.nil ?_
    repeat (first | refine zA ?_ | refine zB ?_ | refine zC ?_ | refine zD ?_ | refine zE ?_ | refine zF ?_ | refine zG rfl ?_ | refine zH ?_ | refine zI ?_ | refine zJ ?_ | refine zK ?_ | refine zL ?_ | refine zM ?_ | refine zN ?_ | refine zO ?_)
    refine zP rfl rfl rfl rfl rfl ?_
    refine zP rfl rfl rfl rfl rfl ?_
    refine pops.atI (f := Value.int .i64) rfl rfl rfl rfl rfl rfl rfl hu2 hAi fun q hq => ?_
    refine zR rfl rfl rfl rfl rfl (by first | assumption | exact cload_of (by assumption) rfl) ?_
    refine zP rfl rfl rfl rfl rfl ?_
    refine zZ rfl rfl rfl rfl rfl (fun q => ?_) (fun q => ?_)
    · simp at q
    clear q
    refine pops.nil ?_
    repeat (first | refine zA ?_ | refine zB ?_ | refine zC ?_ | refine zD ?_ | refine zE ?_ | refine zF ?_ | refine zG rfl ?_ | refine zH ?_ | refine zI ?_ | refine zJ ?_ | refine zK ?_ | refine zL ?_ | refine zM ?_ | refine zN ?_ | refine zO ?_)
    refine pcond.f rfl ?_
    repeat (first | refine zA ?_ | refine zB ?_ | refine zC ?_ | refine zD ?_ | refine zE ?_ | refine zF ?_ | refine zG rfl ?_ | refine zH ?_ | refine zI ?_ | refine zJ ?_ | refine zK ?_ | refine zL ?_ | refine zM ?_ | refine zN ?_ | refine zO ?_)
    repeat (first | refine zT rfl rfl rfl rfl rfl rfl (cbin_inc (by omega)) ?_ | refine zP rfl rfl rfl rfl rfl ?_ | refine zQ rfl rfl rfl ?_ | refine zR rfl rfl rfl rfl rfl (by first | assumption | exact cload_of (by assumption) rfl) ?_ | refine zS rfl rfl rfl rfl rfl rfl rfl rfl (by first | exact SlA.len (by assumption) rfl | exact Sl.map (by assumption) rfl | exact Sl.len (by assumption) rfl) ?_)
    refine pops.nil ?_
    refine .n ⟨_, i + 1, rfl, ⟨rfl, rfl, rfl, rfl, rfl, rfl, trivial⟩, (by show text.length + 1 - (i + 1) < text.length + 1 - i; omega), by omega, g.trans g8⟩
  · repeat (first | refine zA ?_ | refine zB ?_ | refine zC ?_ | refine zD ?_ | refine zE ?_ | refine zF ?_ | refine zG rfl ?_ | refine zH ?_ | refine zI ?_ | refine zJ ?_ | refine zK ?_ | refine zL ?_ | refine zM ?_ | refine zN ?_ | refine zO ?_)
    refine zR rfl rfl rfl rfl rfl (cload_of hc rfl) ?_
    refine zR rfl rfl rfl rfl rfl (cload_of hct rfl) ?_
    refine zP rfl rfl rfl rfl rfl ?_
    refine pops.callV rfl rfl rfl rfl rfl fn_SBounds rfl rfl ((SBoundsS_calls (hpV.gr hwf g07) (htV.gr hwf g07) (Sl.gr hxx hwf g07) hpl htl (by omega) (by omega)).monoW fun r h8 hwf8 hh => ?_)
    obtain ⟨⟨u3, rfl, hu3⟩, g8⟩ := hh
    refine ⟨_, rfl, ?_⟩
    refine zP rfl rfl rfl rfl rfl ?_
    refine pops.callV rfl rfl rfl rfl rfl fn_Ends30 rfl rfl ((Ends30_calls (Sl.gr hu2 hwf' g8) (by omega)).monoW fun r h9 hwf9 hh => ?_)
    obtain ⟨⟨u4, rfl, hu4⟩, g9⟩ := hh
    refine ⟨_, rfl, ?_⟩
    rw [← hbd] at hu4
    refine pops.callG rfl rfl rfl rfl rfl fn_equal rfl rfl rfl (equal_same (Sl.gr hu3 hwf8 g9) hu4) fun h10 hwf10 g10 => ?_
    repeat (first | refine zT rfl rfl rfl rfl rfl rfl (cbin_inc (by omega)) ?_ | refine zP rfl rfl rfl rfl rfl ?_ | refine zQ rfl rfl rfl ?_ | refine zR rfl rfl rfl rfl rfl (by first | assumption | exact cload_of (by assumption) rfl) ?_ | refine zS rfl rfl rfl rfl rfl rfl rfl rfl (by first | exact SlA.len (by assumption) rfl | exact Sl.map (by assumption) rfl | exact Sl.len (by assumption) rfl) ?_)
    refine pops.callG rfl rfl rfl rfl rfl fn_alive rfl rfl rfl alive_calls fun h11 hwf11 g11 => ?_
    repeat (first | refine zT rfl rfl rfl rfl rfl rfl (cbin_inc (by omega)) ?_ | refine zP rfl rfl rfl rfl rfl ?_ | refine zQ rfl rfl rfl ?_ | refine zR rfl rfl rfl rfl rfl (by first | assumption | exact cload_of (by assumption) rfl) ?_ | refine zS rfl rfl rfl rfl rfl rfl rfl rfl (by first | exact SlA.len (by assumption) rfl | exact Sl.map (by assumption) rfl | exact Sl.len (by assumption) rfl) ?_)
    refine pops.nil ?_
    repeat (first | refine zA ?_ | refine zB ?_ | refine zC ?_ | refine zD ?_ | refine zE ?_ | refine zF ?_ | refine zG rfl ?_ | refine zH ?_ | refine zI ?_ | refine zJ ?_ | refine zK ?_ | refine zL ?_ | refine zM ?_ | refine zN ?_ | refine zO ?_)
    refine pleave.r rfl ?_
    rfl
end Go.Proofs.YtpcoponpfhnhlaaGreatDoor
set_option maxRecDepth 100000
set_option linter.unusedVariables false
set_option linter.unusedSimpArgs false
namespace Go.Proofs.YtpcoponpfhnhlaaGreatDoor
open Go.Cx
open Go.ChangeShapes Go.WideShapes Go.ChangeAt Go.RowKit
namespace of_SegmentDecides
theorem own : ownKnob Tryz.prog.godebug = none := by kernel_rfl
theorem kids : Kids Tryz.prog (· < Tryz.prog.types.size) := kids_rows (by kernel_rfl) (by kernel_rfl)
theorem full : ∀ t e, t < Tryz.prog.types.size → Tryz.prog.underlying t = some (.slice e) → 0 < Tryz.prog.cellsOf e := slices_full_of Tryz.prog (by kernel_rfl)
theorem ptys : PropTys tab ks.int ks.str 64 22 23 25 :=
  ⟨rfl, ⟨_, rfl, rfl⟩, ⟨_, rfl, rfl⟩, rfl, rfl, rfl, rfl, rfl⟩
theorem tys : TabTys tab ks 31 29 22 27 :=
  ⟨⟨_, rfl, rfl⟩, ⟨_, rfl, rfl⟩, rfl, rfl, rfl, rfl, rfl, rfl, rfl, rfl⟩
def cellsD : DataW Unit → Array Value
  | .agg l => (l.flatMap fun x => match x with
    | .lit (.int k n) => [Value.int k n]
    | .agg m => m.map fun y => match y with
      | .lit (.int k n) => Value.int k n
      | _ => Value.nilFunc
    | _ => [Value.nilFunc]).toArray
  | _ => #[]
def layCells (d : DataW Unit) : Obj → Obj
  | .cells _ t frozen => .cells (cellsD d) t frozen
  | o => o
noncomputable def laidWorld (os : Os) : World :=
  { World.holding Tryz.prog os ⟨#[], #[], []⟩ with heap := (((((World.holding Tryz.prog os ⟨#[], #[], []⟩).heap.modify 1 (layCells Rows.laid_unicode_utf8_first)).modify 2 (layCells Rows.laid_unicode_utf8_acceptRanges)).modify 3 (layCells Rows.laid_internal_strconv_uint64pow10)).modify 4 (layCells Rows.laid_math_bits_deBruijn32tab)).modify 5 (layCells Rows.laid_math_bits_deBruijn64tab) }
def nilProp : Value := .agg #[.slice none 0 0, .slice none 0 0]
def nilPropD {H : Type} : DataW H := .agg [.nil, .nil]
def nilTable : Value := .agg #[.slice none 0 0, .slice none 0 0, .slice none 0 0, .slice none 0 0, .slice none 0 0, .slice none 0 0]
def nilTableD {H : Type} : DataW H := .agg [.nil, .nil, .agg [.nil, .nil], .agg [.nil, .nil]]
theorem typed : ∀ t ∈ Tryz.f8.params.toList, tyOk tab 6 t = true := by
  rw [Tryz.params8]
  intro t ht
  have : t ∈ ([25, 31, 26] : List Nat) := ht
  simp only [List.mem_cons, List.not_mem_nil, or_false] at this
  rcases this with rfl | rfl | rfl
  · exact (show tyOk tab 6 25 = true by kernel_rfl)
  · exact (show tyOk tab 6 31 = true by kernel_rfl)
  · exact (show tyOk tab 6 26 = true by kernel_rfl)
theorem contract (H : Type) (enc : TypeId × Value → H) (W : World) (base : Nat) (args : Array Value) (ds gs : List (DataW H)) (before : List MemPlace)
    (hval : ∀ (j : Nat) t v, Tryz.f8.params[j]? = some t → args[j]? = some v → Value.okWide Tryz.prog W .any base t v)
    (hW : DataW.Whole enc Tryz.prog Tryz.f8.params.toList Rows.segmentDecidesSpec.vars false W args.toList ds gs before) :
    Calls Tryz.prog 8 args W fun e W' => ∃ v, e = .returned v ∧ Rows.segmentDecidesSpec.post enc Tryz.prog Tryz.f8 false true false false W args v W' := by
  have hW' := hW
  obtain ⟨p, q, hA, hV, rfl, hfz, hnd⟩ := hW
  have hA1 : DataW.TrodAll enc Tryz.prog W 0 (fun _ => true) true [25, 31, 26] args.toList ds p := by
    have := hA
    rw [Tryz.params8] at this
    exact this
  obtain ⟨v0, vs0, d0, ds0, p0, q0, hargs0, rfl, rfl, h0, r0⟩ := trodAll_cons hA1
  obtain ⟨v1, vs1, d1, ds1, p1, q1, hargs1, rfl, rfl, h1, r1⟩ := trodAll_cons r0
  obtain ⟨v2, vs2, d2, ds2, p2, q2, hargs2, rfl, rfl, h2, r2⟩ := trodAll_cons r1
  obtain ⟨rfl, rfl, rfl⟩ := trodAll_nil r2
  rw [Tryz.params8] at hval
  have hargs : args = #[v0, v1, v2] := by cases args; simp_all
  subst hargs
  refine (law_calls (f := 8) tab_ok typed hA fun h cvs hh => ?_).mono fun e W' ⟨he, hb⟩ => ⟨_, he, post_law hW' rfl rfl rfl Tryz.underlying4 kids full (by rw [Tryz.params8]; decide) hb⟩
  rw [Tryz.params8] at hh
  match cvs, hh with
  | [c0, c1, c2], ⟨⟨e0, n0⟩, ⟨⟨e1, n1⟩, ⟨⟨e2, n2⟩, _⟩⟩⟩ =>
    obtain ⟨p, hp, hpl⟩ := prop_of ptys e0
    obtain ⟨t, ht, htl⟩ := tab_of tys e1
    obtain ⟨l, hl⟩ := ints_arg (t := 26) (el := 3) rfl rfl rfl (n2 (notAgg_slice Tryz.underlying26 (hval 2 _ _ rfl rfl))) e2
    exact lawDecides30_calls hp ht hl hpl htl
theorem laid_met (os : Os) : laidMet Tryz.prog Rows.segmentDecidesRow.laid ((laidWorld os).forCall (fun _ _ => 0) ⟨#[], #[nilProp, nilTable, .slice none 0 0], []⟩).memory :=
  laidMet_of_run' 8 (by kernel_rfl) (by kernel_rfl)
theorem reads (os : Os) {H : Type} (enc : TypeId × Value → H) : ∃ places, DataW.whole enc Tryz.prog ((laidWorld os).forCall (fun _ _ => 0) ⟨#[], #[nilProp, nilTable, .slice none 0 0], []⟩).memory Tryz.f8.params.toList Rows.segmentDecidesSpec.vars false (#[nilProp, nilTable, .slice none 0 0] : Array Value).toList 8 = some ([nilPropD, nilTableD, .nil], [], places) :=
  ⟨[], by kernel_rfl⟩
theorem lifted (os : Os) (started : os.Started) (H : Type) (enc : TypeId × Value → H) (F : Stop.Interp) :
    ReturnsInHanded {} Tryz.checked os 8 .any ((OpenSpec.ofChange Rows.segmentDecidesSpec).preRow enc Tryz.prog Tryz.f8 Rows.segmentDecidesRow.domain false Rows.segmentDecidesRow.laid) (((OpenSpec.ofChange Rows.segmentDecidesSpec).at F).post enc Tryz.prog Tryz.f8 false true false false) := by
  obtain ⟨places, hx⟩ := reads os enc
  refine returnsInHanded_of_row (C := Tryz.checked) (s := OpenSpec.ofChange Rows.segmentDecidesSpec) own started (by kernel_rfl) Tryz.func8
    (witness_row_at (enc := enc) (C := Tryz.checked) false (laidWorld os) #[nilProp, nilTable, .slice none 0 0] rfl (by kernel_rfl) (by kernel_rfl) (by kernel_rfl)
      (OpenSpec.preRow_of_cond 8 hx (by kernel_rfl) (fun k hk => by cases hk) (by kernel_rfl) (laid_met os))) ?_
  intro W base args ds gs before hval hW _ _ _ hL _ _
  exact contract H enc W base args ds gs before hval hW
theorem said : Rows.SegmentDecidesSaid :=
  OpenClaim.holds_of_cond 8 Tryz.f8 rfl rfl rfl rfl rfl rfl rfl ⟨rfl, rfl, rfl, rfl, rfl⟩ rfl rfl rfl rfl rfl (by kernel_rfl) Tryz.func8 (by kernel_rfl)
    (of_decide_eq_true (by kernel_rfl)) (by unfold Func.isWrapper; first | (rw [if_pos (by decide +kernel)]; kernel_rfl) | (rw [if_neg (by decide +kernel)]; exact ⟨rfl, rfl⟩))
    (fun os started H enc _ F => by rw [OpenClaim.pre_eq_preRow]; exact lifted os started H enc F)
theorem plain (f : FuncId) (fn : Func) (hf : Tryz.pinned.checked.prog.funcNamed "unicodetext/unicodetextlaw30.SegmentDecides" = some f) (hfn : Tryz.pinned.checked.prog.funcs[f]? = some fn) :
    true = Tryz.pinned.checked.prog.looks [] ∧ ∀ (j : Nat) t, fn.params[j]? = some t → Tryz.pinned.checked.prog.wantsStandIn t = false := by
  obtain rfl : f = 8 := Option.some.inj ((show Tryz.prog.funcNamed "unicodetext/unicodetextlaw30.SegmentDecides" = some 8 by kernel_rfl).symm.trans hf) |>.symm
  obtain rfl : fn = Tryz.f8 := (Option.some.inj (Tryz.func8.symm.trans hfn)).symm
  refine ⟨by kernel_rfl, fun j t ht => ?_⟩
  have hm : t ∈ ([25, 31, 26] : List Nat) := by
    have := Array.mem_of_getElem? ht
    rw [Tryz.params8] at this
    simpa using this
  simp only [List.mem_cons, List.not_mem_nil, or_false] at hm
  rcases hm with rfl | rfl | rfl
  · exact (show Tryz.prog.wantsStandIn 25 = false by kernel_rfl)
  · exact (show Tryz.prog.wantsStandIn 31 = false by kernel_rfl)
  · exact (show Tryz.prog.wantsStandIn 26 = false by kernel_rfl)
end of_SegmentDecides
theorem segmentDecides_card : Rows.SegmentDecidesCardSaid :=
  Claim7.holds_tied_plain_at .later [] _ _ _ _ of_SegmentDecides.said (fun _ h => by cases h) (by kernel_rfl) (fun _ h => by cases h) segmentDecides_row_tie rfl ⟨rfl, rfl⟩ (by kernel_rfl) rfl of_SegmentDecides.plain (by kernel_rfl)
end Go.Proofs.YtpcoponpfhnhlaaGreatDoor