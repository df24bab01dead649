/- Walks through the functions that the statement reaches, and the statement. Conditions: none. -/
import Derived.Test.YtpcoponpfhnhlaaGreatDoorWalkE
import Derived.Test.YtpcoponpfhnhlaaGreatDoorWalkB
import Derived.Test.YtpcoponpfhnhlaaGreatDoorCxE
import Derived.Test.YtpcoponpfhnhlaaGreatDoorCards
import Derived.Test.YtpcoponpfhnhlaaGreatDoorTie
import Derived.WalkKit
import Derived.ProofKit
import Derived.OpenShut
import Derived.Deep.DeepHandedRow
set_option maxRecDepth 100000
set_option linter.unusedVariables false
set_option linter.unusedSimpArgs false
namespace Go.Proofs.YtpcoponpfhnhlaaGreatDoor
open Go.Cx
variable {w : World} {h : CH}
theorem few30_le {p : PropD} {t : TabD} {text : List Int} (hf : few30 p t text = true) : text.length ≤ 40 ∧ p.spans.length ≤ 16 := by
  unfold few30 at hf
  simp at hf
  omega
end Go.Proofs.YtpcoponpfhnhlaaGreatDoor
set_option maxRecDepth 100000
set_option linter.unusedVariables false
set_option linter.unusedSimpArgs false
namespace Go.Proofs.YtpcoponpfhnhlaaGreatDoor
open Go.Cx
variable {w : World} {h : CH}
theorem fn_lawCovers30 : tab.fn 3 = some Tryz.f3 := by kernel_rfl
theorem lawCovers30_calls {vp vt vx : Value} {p : PropD} {t : TabD} {text : List Int} (hp : PropV tab ks.str 64 h vp p) (ht : TabV tab ks h vt t) (hxx : SlI tab ks.int h vx text) (hpl : TextsLt p.names) (htl : TextsLt t.classes) :
    CalF (X w) 3 [vp, vt, vx] h fun r h' => r = .ret (.bool true) := by
  refine CalF.wf fun hwf => ?_
  have hpV := hp
  have htV := ht
  obtain ⟨c, s, rfl, oc, os, hpn, hps⟩ := hp
  obtain ⟨c', a, x, y, x', y', rfl, ho, hcl, hac, hx, hy, hx', hy'⟩ := ht
  clear hac hx hy hx' hy' hpn hps hcl
  simp only [Bool.and_eq_true] at ho
  refine CalF.intro fn_lawCovers30 rfl (Nat.le_of_ble_eq_true rfl) ?_
  repeat (first | refine zA ?_ | refine zB ?_ | refine zC ?_ | refine zD ?_ | refine zE ?_ | refine zF ?_ | refine zG rfl ?_ | refine zH ?_ | refine zI ?_ | refine zJ ?_ | refine zK ?_ | refine zL ?_ | refine zM ?_ | refine zN ?_ | refine zO ?_)
  refine pops.box (cs := [c, s]) rfl rfl rfl rfl (by simp [oc, os]) rfl rfl hwf fun b h1 hb hwf1 g1 hc => ?_
  refine pops.box (cs := [c', a, x, y, x', y']) rfl rfl rfl rfl (by simp [ho]) rfl rfl hwf1 fun bt h2 hbt hwf2 g2 hct => ?_
  have g02 := g1.trans g2
  replace hc := g2.at hwf1 hc
  refine zP rfl rfl rfl rfl rfl ?_
  refine pops.nil ?_
  repeat (first | refine zA ?_ | refine zB ?_ | refine zC ?_ | refine zD ?_ | refine zE ?_ | refine zF ?_ | refine zG rfl ?_ | refine zH ?_ | refine zI ?_ | refine zJ ?_ | refine zK ?_ | refine zL ?_ | refine zM ?_ | refine zN ?_ | refine zO ?_)
  refine zR rfl rfl rfl rfl rfl (cload_of hc rfl) ?_
  refine zR rfl rfl rfl rfl rfl (cload_of hct rfl) ?_
  refine zP rfl rfl rfl rfl rfl ?_
  refine pops.callG rfl rfl rfl rfl rfl fn_few30 rfl rfl rfl (few30_calls (hpV.gr hwf g02) (htV.gr hwf g02) (Sl.gr hxx hwf g02)) fun h3 hwf3 g3 => ?_
  replace hc := g3.at hwf2 hc
  replace hct := g3.at hwf2 hct
  have g03 := g02.trans g3
  cases hf : few30 p t text with
  | false =>
    repeat (first | refine zT rfl rfl rfl rfl rfl rfl (cbin_inc (by omega)) ?_ | refine zP rfl rfl rfl rfl rfl ?_ | refine zQ rfl rfl rfl ?_ | refine zR rfl rfl rfl rfl rfl (by first | assumption | exact cload_of (by assumption) rfl) ?_ | refine zS rfl rfl rfl rfl rfl rfl rfl rfl (by first | exact SlA.len (by assumption) rfl | exact Sl.map (by assumption) rfl | exact Sl.len (by assumption) rfl) ?_)
    refine pops.nil ?_
    repeat (first | refine zA ?_ | refine zB ?_ | refine zC ?_ | refine zD ?_ | refine zE ?_ | refine zF ?_ | refine zG rfl ?_ | refine zH ?_ | refine zI ?_ | refine zJ ?_ | refine zK ?_ | refine zL ?_ | refine zM ?_ | refine zN ?_ | refine zO ?_)
    refine pcond.t rfl ?_
    repeat (first | refine zA ?_ | refine zB ?_ | refine zC ?_ | refine zD ?_ | refine zE ?_ | refine zF ?_ | refine zG rfl ?_ | refine zH ?_ | refine zI ?_ | refine zJ ?_ | refine zK ?_ | refine zL ?_ | refine zM ?_ | refine zN ?_ | refine zO ?_)
    refine pops.callG rfl rfl rfl rfl rfl fn_alive rfl rfl rfl alive_calls fun h4 hwf4 g4 => ?_
    repeat (first | refine zT rfl rfl rfl rfl rfl rfl (cbin_inc (by omega)) ?_ | refine zP rfl rfl rfl rfl rfl ?_ | refine zQ rfl rfl rfl ?_ | refine zR rfl rfl rfl rfl rfl (by first | assumption | exact cload_of (by assumption) rfl) ?_ | refine zS rfl rfl rfl rfl rfl rfl rfl rfl (by first | exact SlA.len (by assumption) rfl | exact Sl.map (by assumption) rfl | exact Sl.len (by assumption) rfl) ?_)
    refine pops.nil ?_
    repeat (first | refine zA ?_ | refine zB ?_ | refine zC ?_ | refine zD ?_ | refine zE ?_ | refine zF ?_ | refine zG rfl ?_ | refine zH ?_ | refine zI ?_ | refine zJ ?_ | refine zK ?_ | refine zL ?_ | refine zM ?_ | refine zN ?_ | refine zO ?_)
    refine pleave.r rfl ?_
    rfl
  | true =>
  obtain ⟨hxl, hsl⟩ := few30_le hf
  refine zP rfl rfl rfl rfl rfl ?_
  refine zP rfl rfl rfl rfl rfl ?_
  refine zR rfl rfl rfl rfl rfl (cload_of hct rfl) ?_
  refine pops.callG rfl rfl rfl rfl rfl fn_refvalid rfl rfl rfl (refvalid_calls (htV.gr hwf g03) htl) fun h4 hwf4 g4 => ?_
  replace hc := g4.at hwf3 hc
  replace hct := g4.at hwf3 hct
  have g04 := g03.trans g4
  cases hV : tt (ValidP t) with
  | false =>
    repeat (first | refine zT rfl rfl rfl rfl rfl rfl (cbin_inc (by omega)) ?_ | refine zP rfl rfl rfl rfl rfl ?_ | refine zQ rfl rfl rfl ?_ | refine zR rfl rfl rfl rfl rfl (by first | assumption | exact cload_of (by assumption) rfl) ?_ | refine zS rfl rfl rfl rfl rfl rfl rfl rfl (by first | exact SlA.len (by assumption) rfl | exact Sl.map (by assumption) rfl | exact Sl.len (by assumption) rfl) ?_)
    refine pops.nil ?_
    repeat (first | refine zA ?_ | refine zB ?_ | refine zC ?_ | refine zD ?_ | refine zE ?_ | refine zF ?_ | refine zG rfl ?_ | refine zH ?_ | refine zI ?_ | refine zJ ?_ | refine zK ?_ | refine zL ?_ | refine zM ?_ | refine zN ?_ | refine zO ?_)
    refine pcond.t rfl ?_
    repeat (first | refine zA ?_ | refine zB ?_ | refine zC ?_ | refine zD ?_ | refine zE ?_ | refine zF ?_ | refine zG rfl ?_ | refine zH ?_ | refine zI ?_ | refine zJ ?_ | refine zK ?_ | refine zL ?_ | refine zM ?_ | refine zN ?_ | refine zO ?_)
    refine pops.callG rfl rfl rfl rfl rfl fn_alive rfl rfl rfl alive_calls fun h5 hwf5 g5 => ?_
    repeat (first | refine zT rfl rfl rfl rfl rfl rfl (cbin_inc (by omega)) ?_ | refine zP rfl rfl rfl rfl rfl ?_ | refine zQ rfl rfl rfl ?_ | refine zR rfl rfl rfl rfl rfl (by first | assumption | exact cload_of (by assumption) rfl) ?_ | refine zS rfl rfl rfl rfl rfl rfl rfl rfl (by first | exact SlA.len (by assumption) rfl | exact Sl.map (by assumption) rfl | exact Sl.len (by assumption) rfl) ?_)
    refine pops.nil ?_
    repeat (first | refine zA ?_ | refine zB ?_ | refine zC ?_ | refine zD ?_ | refine zE ?_ | refine zF ?_ | refine zG rfl ?_ | refine zH ?_ | refine zI ?_ | refine zJ ?_ | refine zK ?_ | refine zL ?_ | refine zM ?_ | refine zN ?_ | refine zO ?_)
    refine pleave.r rfl ?_
    rfl
  | true =>
  have hV := tt_iff.1 hV
  repeat (first | refine zT rfl rfl rfl rfl rfl rfl (cbin_inc (by omega)) ?_ | refine zP rfl rfl rfl rfl rfl ?_ | refine zQ rfl rfl rfl ?_ | refine zR rfl rfl rfl rfl rfl (by first | assumption | exact cload_of (by assumption) rfl) ?_ | refine zS rfl rfl rfl rfl rfl rfl rfl rfl (by first | exact SlA.len (by assumption) rfl | exact Sl.map (by assumption) rfl | exact Sl.len (by assumption) rfl) ?_)
  refine pops.nil ?_
  repeat (first | refine zA ?_ | refine zB ?_ | refine zC ?_ | refine zD ?_ | refine zE ?_ | refine zF ?_ | refine zG rfl ?_ | refine zH ?_ | refine zI ?_ | refine zJ ?_ | refine zK ?_ | refine zL ?_ | refine zM ?_ | refine zN ?_ | refine zO ?_)
  refine pcond.f rfl ?_
  repeat (first | refine zA ?_ | refine zB ?_ | refine zC ?_ | refine zD ?_ | refine zE ?_ | refine zF ?_ | refine zG rfl ?_ | refine zH ?_ | refine zI ?_ | refine zJ ?_ | refine zK ?_ | refine zL ?_ | refine zM ?_ | refine zN ?_ | refine zO ?_)
  refine zR rfl rfl rfl rfl rfl (cload_of hc rfl) ?_
  refine zR rfl rfl rfl rfl rfl (cload_of hct rfl) ?_
  refine zP rfl rfl rfl rfl rfl ?_
  refine pops.callV rfl rfl rfl rfl rfl fn_SParts rfl rfl ((SParts_calls (hpV.gr hwf g04) (htV.gr hwf g04) (Sl.gr hxx hwf g04) hpl htl (by omega) (by omega)).monoW fun r h5 hwf5 hh => ?_)
  obtain ⟨⟨u1, rfl, hu1⟩, g5⟩ := hh
  refine ⟨_, rfl, ?_⟩
  replace hc := g5.at hwf4 hc
  replace hct := g5.at hwf4 hct
  have g05 := g04.trans g5
  repeat (first | refine zT rfl rfl rfl rfl rfl rfl (cbin_inc (by omega)) ?_ | refine zP rfl rfl rfl rfl rfl ?_ | refine zQ rfl rfl rfl ?_ | refine zR rfl rfl rfl rfl rfl (by first | assumption | exact cload_of (by assumption) rfl) ?_ | refine zS rfl rfl rfl rfl rfl rfl rfl rfl (by first | exact SlA.len (by assumption) rfl | exact Sl.map (by assumption) rfl | exact Sl.len (by assumption) rfl) ?_)
  refine pops.nil ?_
  repeat (first | refine zA ?_ | refine zB ?_ | refine zC ?_ | refine zD ?_ | refine zE ?_ | refine zF ?_ | refine zG rfl ?_ | refine zH ?_ | refine zI ?_ | refine zJ ?_ | refine zK ?_ | refine zL ?_ | refine zM ?_ | refine zN ?_ | refine zO ?_)
  refine zR rfl rfl rfl rfl rfl (cload_of hc rfl) ?_
  refine zR rfl rfl rfl rfl rfl (cload_of hct rfl) ?_
  refine zP rfl rfl rfl rfl rfl ?_
  refine pops.callV rfl rfl rfl rfl rfl fn_SActions rfl rfl ((SActions_calls (hpV.gr hwf g05) (htV.gr hwf g05) (Sl.gr hxx hwf g05) hpl htl (by omega) (by omega)).monoW fun r h6 hwf6 hh => ?_)
  obtain ⟨⟨u2, rfl, hu2⟩, g6⟩ := hh
  refine ⟨_, rfl, ?_⟩
  replace hc := g6.at hwf5 hc
  replace hct := g6.at hwf5 hct
  have g06 := g05.trans g6
  replace hu1 := Sl.gr hu1 hwf5 g6
  have hxx6 := Sl.gr hxx hwf g06
  have hAl := acts_length (p := p) (text := text) hV
  have hcov := parts_cov (p := p) (text := text) hV
  have hpll := parts_le (p := p) (t := t) (text := text)
  obtain ⟨rfs, hru⟩ := range_und
  repeat (first | refine zT rfl rfl rfl rfl rfl rfl (cbin_inc (by omega)) ?_ | refine zP rfl rfl rfl rfl rfl ?_ | refine zQ rfl rfl rfl ?_ | refine zR rfl rfl rfl rfl rfl (by first | assumption | exact cload_of (by assumption) rfl) ?_ | refine zS rfl rfl rfl rfl rfl rfl rfl rfl (by first | exact SlA.len (by assumption) rfl | exact Sl.map (by assumption) rfl | exact Sl.len (by assumption) rfl) ?_)
  refine pops.nil ?_
  repeat (first | refine zA ?_ | refine zB ?_ | refine zC ?_ | refine zD ?_ | refine zE ?_ | refine zF ?_ | refine zG rfl ?_ | refine zH ?_ | refine zI ?_ | refine zJ ?_ | refine zK ?_ | refine zL ?_ | refine zM ?_ | refine zN ?_ | refine zO ?_)
  refine zP rfl rfl rfl rfl rfl ?_
  refine zS rfl rfl rfl rfl rfl rfl rfl rfl (SlI.len hu2 rfl) ?_
  refine zP rfl rfl rfl rfl rfl ?_
  refine zS rfl rfl rfl rfl rfl rfl rfl rfl (SlI.len hxx6 rfl) ?_
  refine zT rfl rfl rfl rfl rfl rfl (cbin_inc (i := text.length) (by omega)) ?_
  refine zZ rfl rfl rfl rfl rfl (fun q => ?_) (fun q => ?_)
  · simp [hAl] at q
  clear q
  refine zP rfl rfl rfl rfl rfl ?_
  refine zP rfl rfl rfl rfl rfl ?_
  refine zS rfl rfl rfl rfl rfl rfl rfl rfl (Sl.map hu1 rfl) ?_
  refine zR rfl rfl rfl rfl rfl (cload_of hc rfl) ?_
  refine zR rfl rfl rfl rfl rfl (cload_of hct rfl) ?_
  refine zP rfl rfl rfl rfl rfl ?_
  refine pops.callG rfl rfl rfl rfl rfl fn_SCount rfl rfl rfl (SCount_calls (hpV.gr hwf g06) (htV.gr hwf g06) hxx6 hpl htl (by omega) (by omega)) fun h7 hwf7 g7 => ?_
  replace hu1 := Sl.gr hu1 hwf6 g7
  replace hu2 := Sl.gr hu2 hwf6 g7
  have hxx7 := Sl.gr hxx6 hwf6 g7
  generalize partsD p t text = L at hu1 hcov hpll ⊢
  generalize ActionsR t (clsD p t text) = A at hu2 hcov hAl ⊢
  refine zZ rfl rfl rfl rfl rfl (fun q => ?_) (fun q => ?_)
  · simp at q
  clear q hc hct
  repeat (first | refine zT rfl rfl rfl rfl rfl rfl (cbin_inc (by omega)) ?_ | refine zP rfl rfl rfl rfl rfl ?_ | refine zQ rfl rfl rfl ?_ | refine zR rfl rfl rfl rfl rfl (by first | assumption | exact cload_of (by assumption) rfl) ?_ | refine zS rfl rfl rfl rfl rfl rfl rfl rfl (by first | exact SlA.len (by assumption) rfl | exact Sl.map (by assumption) rfl | exact Sl.len (by assumption) rfl) ?_)
  refine pops.nil ?_
  repeat (first | refine zA ?_ | refine zB ?_ | refine zC ?_ | refine zD ?_ | refine zE ?_ | refine zF ?_ | refine zG rfl ?_ | refine zH ?_ | refine zI ?_ | refine zJ ?_ | refine zK ?_ | refine zL ?_ | refine zM ?_ | refine zN ?_ | refine zO ?_)
  refine pcond.f rfl ?_
  repeat (first | refine zA ?_ | refine zB ?_ | refine zC ?_ | refine zD ?_ | refine zE ?_ | refine zF ?_ | refine zG rfl ?_ | refine zH ?_ | refine zI ?_ | refine zJ ?_ | refine zK ?_ | refine zL ?_ | refine zM ?_ | refine zN ?_ | refine zO ?_)
  repeat (first | refine zT rfl rfl rfl rfl rfl rfl (cbin_inc (by omega)) ?_ | refine zP rfl rfl rfl rfl rfl ?_ | refine zQ rfl rfl rfl ?_ | refine zR rfl rfl rfl rfl rfl (by first | assumption | exact cload_of (by assumption) rfl) ?_ | refine zS rfl rfl rfl rfl rfl rfl rfl rfl (by first | exact SlA.len (by assumption) rfl | exact Sl.map (by assumption) rfl | exact Sl.len (by assumption) rfl) ?_)
  refine pops.nil ?_
  repeat (first | refine zA ?_ | refine zB ?_ | refine zC ?_ | refine zD ?_ | refine zE ?_ | refine zF ?_ | refine zG rfl ?_ | refine zH ?_ | refine zI ?_ | refine zJ ?_ | refine zK ?_ | refine zL ?_ | refine zM ?_ | refine zN ?_ | refine zO ?_)
  repeat (first | refine zT rfl rfl rfl rfl rfl rfl (cbin_inc (by omega)) ?_ | refine zP rfl rfl rfl rfl rfl ?_ | refine zQ rfl rfl rfl ?_ | refine zR rfl rfl rfl rfl rfl (by first | assumption | exact cload_of (by assumption) rfl) ?_ | refine zS rfl rfl rfl rfl rfl rfl rfl rfl (by first | exact SlA.len (by assumption) rfl | exact Sl.map (by assumption) rfl | exact Sl.len (by assumption) rfl) ?_)
  refine pops.nil ?_
  repeat (first | refine zA ?_ | refine zB ?_ | refine zC ?_ | refine zD ?_ | refine zE ?_ | refine zF ?_ | refine zG rfl ?_ | refine zH ?_ | refine zI ?_ | refine zJ ?_ | refine zK ?_ | refine zL ?_ | refine zM ?_ | refine zN ?_ | refine zO ?_)
  refine Loops.ind 7 (fun s : Nat × Nat => [(2, vx), (7, u1), (8, u2), (9, .int .i64 (s.2 : Nat)), (10, .int .i64 (s.1 : Nat))])
    (fun s h' => s.1 ≤ L.length ∧ h' = h7 ∧ Cov A text.length (s.2 : Int) (L.drop s.1)) (fun s => L.length - s.1) (0, 0) (by decide) ⟨rfl, rfl, rfl, rfl, rfl, trivial⟩ ⟨Nat.zero_le _, rfl, hcov⟩ ?_
  clear hcov
  rintro ⟨i, u⟩ z h' hwf' ⟨hi, he7, hcov⟩
  subst he7
  simp only at hi hcov
  repeat (first | refine zA ?_ | refine zB ?_ | refine zC ?_ | refine zD ?_ | refine zE ?_ | refine zF ?_ | refine zG rfl ?_ | refine zH ?_ | refine zI ?_ | refine zJ ?_ | refine zK ?_ | refine zL ?_ | refine zM ?_ | refine zN ?_ | refine zO ?_)
  refine zP rfl rfl rfl rfl rfl ?_
  refine zP rfl rfl rfl rfl rfl ?_
  refine zS rfl rfl rfl rfl rfl rfl rfl rfl (Sl.map hu1 rfl) ?_
  refine zP rfl rfl rfl rfl rfl ?_
  refine pops.nil ?_
  repeat (first | refine zA ?_ | refine zB ?_ | refine zC ?_ | refine zD ?_ | refine zE ?_ | refine zF ?_ | refine zG rfl ?_ | refine zH ?_ | refine zI ?_ | refine zJ ?_ | refine zK ?_ | refine zL ?_ | refine zM ?_ | refine zN ?_ | refine zO ?_)
  refine pcond.d (p := (i : Int) < (L.length : Nat)) rfl (fun hlt => ?_) (fun hge => ?_)
  · have hlt : i < L.length := by omega
    obtain ⟨⟨r1, r2⟩, hr⟩ : ∃ x, L[i]? = some x := ⟨_, List.getElem?_eq_getElem hlt⟩
    obtain ⟨hr1, hr2, hr3, hr4, hr5, hr6⟩ := cov_step hcov hr
    simp only at hr1 hr2 hr3 hr4 hr5 hr6
    subst hr1
    obtain ⟨m, rfl⟩ : ∃ m : Nat, r2 = m := Int.eq_ofNat_of_zero_le (by omega)
    rw [Int.toNat_natCast] at hr4
    obtain ⟨bx, ox, hxp, hxl⟩ := SlR.read (int := 3) (ts := 35) hwf' hru rfl rfl rfl hu1 hr .i64
    obtain ⟨hx0, hx1⟩ := hxl h' (Gr.refl _)
    simp only at hx0 hx1
    have hAg : ∀ k, k ≤ text.length → ∃ y, A[k]? = some y ∧ A.getD k 0 = y := fun k hk => ⟨_, List.getElem?_eq_getElem (by omega), by rw [List.getD_eq_getElem?_getD, List.getElem?_eq_getElem (by omega)]; rfl⟩
    repeat (first | refine zA ?_ | refine zB ?_ | refine zC ?_ | refine zD ?_ | refine zE ?_ | refine zF ?_ | refine zG rfl ?_ | refine zH ?_ | refine zI ?_ | refine zJ ?_ | refine zK ?_ | refine zL ?_ | refine zM ?_ | refine zN ?_ | refine zO ?_)
    refine zP rfl rfl rfl rfl rfl ?_
    refine zP rfl rfl rfl rfl rfl ?_
    refine pops.indexAddr rfl rfl rfl rfl rfl rfl hxp ?_
    refine zP rfl rfl rfl rfl rfl ?_
    refine zR rfl rfl rfl rfl rfl hx0 ?_
    refine zP rfl rfl rfl rfl rfl ?_
    refine zZ rfl rfl rfl rfl rfl (fun q => ?_) (fun q => ?_)
    · simp at q
    clear q
    refine zP rfl rfl rfl rfl rfl ?_
    refine zP rfl rfl rfl rfl rfl ?_
    refine zP rfl rfl rfl rfl rfl ?_
    refine pops.indexAddr rfl rfl rfl rfl rfl rfl hxp ?_
    refine zP rfl rfl rfl rfl rfl ?_
    refine zR rfl rfl rfl rfl rfl hx1 ?_
    refine zP rfl rfl rfl rfl rfl ?_
    refine zZ rfl rfl rfl rfl rfl (fun q => ?_) (fun q => ?_)
    · have q := of_decide_eq_true q; omega
    clear q
    refine zP rfl rfl rfl rfl rfl ?_
    refine zP rfl rfl rfl rfl rfl ?_
    refine zP rfl rfl rfl rfl rfl ?_
    refine zP rfl rfl rfl rfl rfl ?_
    refine pops.indexAddr rfl rfl rfl rfl rfl rfl hxp ?_
    refine zP rfl rfl rfl rfl rfl ?_
    refine zR rfl rfl rfl rfl rfl hx1 ?_
    refine zP rfl rfl rfl rfl rfl ?_
    refine zS rfl rfl rfl rfl rfl rfl rfl rfl (SlI.len hxx7 rfl) ?_
    refine zZ rfl rfl rfl rfl rfl (fun q => ?_) (fun q => ?_)
    · have q := of_decide_eq_true q; omega
    clear q
    refine zP rfl rfl rfl rfl rfl ?_
    refine zP rfl rfl rfl rfl rfl ?_
    refine zP rfl rfl rfl rfl rfl ?_
    refine zT rfl rfl rfl rfl rfl rfl (cbin_inc (i := i) (by omega)) ?_
    refine zP rfl rfl rfl rfl rfl ?_
    refine zS rfl rfl rfl rfl rfl rfl rfl rfl (Sl.map hu1 rfl) ?_
    rcases Nat.lt_or_ge (i + 1) L.length with h1l | h1l
    · obtain ⟨y, hy1, hy2⟩ := hAg m (by omega)
      have hy3 := hr4 h1l
      rw [hy2] at hy3
      refine zZ rfl rfl rfl rfl rfl (fun q => ?_) (fun q => ?_)
      rotate_left
      · have q := of_decide_eq_false q; omega
      clear q
      refine zP rfl rfl rfl rfl rfl ?_
      refine zP rfl rfl rfl rfl rfl ?_
      refine zP rfl rfl rfl rfl rfl ?_
      refine zP rfl rfl rfl rfl rfl ?_
      refine pops.indexAddr rfl rfl rfl rfl rfl rfl hxp ?_
      refine zP rfl rfl rfl rfl rfl ?_
      refine zR rfl rfl rfl rfl rfl hx1 ?_
      refine pops.atI (i := m) (f := Value.int .i64) rfl rfl rfl rfl rfl rfl rfl hu2 hy1 fun q hq => ?_
      refine zR rfl rfl rfl rfl rfl (by first | assumption | exact cload_of (by assumption) rfl) ?_
      refine zZ rfl rfl rfl rfl rfl (fun q => ?_) (fun q => ?_)
      · have q := of_decide_eq_true q; omega
      clear q
      repeat (first | refine zT rfl rfl rfl rfl rfl rfl (cbin_inc (by omega)) ?_ | refine zP rfl rfl rfl rfl rfl ?_ | refine zQ rfl rfl rfl ?_ | refine zR rfl rfl rfl rfl rfl (by first | assumption | exact cload_of (by assumption) rfl) ?_ | refine zS rfl rfl rfl rfl rfl rfl rfl rfl (by first | exact SlA.len (by assumption) rfl | exact Sl.map (by assumption) rfl | exact Sl.len (by assumption) rfl) ?_)
      refine pops.nil ?_
      repeat (first | refine zA ?_ | refine zB ?_ | refine zC ?_ | refine zD ?_ | refine zE ?_ | refine zF ?_ | refine zG rfl ?_ | refine zH ?_ | refine zI ?_ | refine zJ ?_ | refine zK ?_ | refine zL ?_ | refine zM ?_ | refine zN ?_ | refine zO ?_)
      refine pcond.f rfl ?_
      repeat (first | refine zA ?_ | refine zB ?_ | refine zC ?_ | refine zD ?_ | refine zE ?_ | refine zF ?_ | refine zG rfl ?_ | refine zH ?_ | refine zI ?_ | refine zJ ?_ | refine zK ?_ | refine zL ?_ | refine zM ?_ | refine zN ?_ | refine zO ?_)
      refine zP rfl rfl rfl rfl rfl ?_
      refine zT rfl rfl rfl rfl rfl rfl (cbin_inc (i := u) (by omega)) ?_
      repeat (first | refine zT rfl rfl rfl rfl rfl rfl (cbin_inc (by omega)) ?_ | refine zP rfl rfl rfl rfl rfl ?_ | refine zQ rfl rfl rfl ?_ | refine zR rfl rfl rfl rfl rfl (by first | assumption | exact cload_of (by assumption) rfl) ?_ | refine zS rfl rfl rfl rfl rfl rfl rfl rfl (by first | exact SlA.len (by assumption) rfl | exact Sl.map (by assumption) rfl | exact Sl.len (by assumption) rfl) ?_)
      refine pops.nil ?_
      repeat (first | refine zA ?_ | refine zB ?_ | refine zC ?_ | refine zD ?_ | refine zE ?_ | refine zF ?_ | refine zG rfl ?_ | refine zH ?_ | refine zI ?_ | refine zJ ?_ | refine zK ?_ | refine zL ?_ | refine zM ?_ | refine zN ?_ | refine zO ?_)
      refine Loops.ind 7 (fun k : Nat => [(2, vx), (7, u1), (8, u2), (9, .int .i64 (u : Nat)), (10, .int .i64 (i : Nat)), (11, .int .i64 (k : Nat))])
        (fun k h2 => u + 1 ≤ k ∧ k ≤ m ∧ h2 = h') (fun k => m - k) (u + 1) (by decide) ⟨rfl, rfl, rfl, rfl, rfl, rfl, trivial⟩ ⟨Nat.le_refl _, by omega, rfl⟩ ?_
      rintro k z2 h2 hwf2 ⟨hk1, hk2, he2⟩
      subst he2
      repeat (first | refine zA ?_ | refine zB ?_ | refine zC ?_ | refine zD ?_ | refine zE ?_ | refine zF ?_ | refine zG rfl ?_ | refine zH ?_ | refine zI ?_ | refine zJ ?_ | refine zK ?_ | refine zL ?_ | refine zM ?_ | refine zN ?_ | refine zO ?_)
      refine zP rfl rfl rfl rfl rfl ?_
      refine zP rfl rfl rfl rfl rfl ?_
      refine zP rfl rfl rfl rfl rfl ?_
      refine pops.indexAddr rfl rfl rfl rfl rfl rfl hxp ?_
      refine zP rfl rfl rfl rfl rfl ?_
      refine zR rfl rfl rfl rfl rfl hx1 ?_
      refine zP rfl rfl rfl rfl rfl ?_
      refine pops.nil ?_
      repeat (first | refine zA ?_ | refine zB ?_ | refine zC ?_ | refine zD ?_ | refine zE ?_ | refine zF ?_ | refine zG rfl ?_ | refine zH ?_ | refine zI ?_ | refine zJ ?_ | refine zK ?_ | refine zL ?_ | refine zM ?_ | refine zN ?_ | refine zO ?_)
      refine pcond.d (p := (k : Int) < (m : Nat)) rfl (fun hlt2 => ?_) (fun hge2 => ?_)
      · obtain ⟨y2, hy1', hy2'⟩ := hAg k (by omega)
        have hy3' := hr5 k (by omega) (by omega)
        rw [hy2'] at hy3'
        subst hy3'
        repeat (first | refine zA ?_ | refine zB ?_ | refine zC ?_ | refine zD ?_ | refine zE ?_ | refine zF ?_ | refine zG rfl ?_ | refine zH ?_ | refine zI ?_ | refine zJ ?_ | refine zK ?_ | refine zL ?_ | refine zM ?_ | refine zN ?_ | refine zO ?_)
        refine zP rfl rfl rfl rfl rfl ?_
        refine zP rfl rfl rfl rfl rfl ?_
        refine pops.atI (f := Value.int .i64) rfl rfl rfl rfl rfl rfl rfl hu2 hy1' fun q hq => ?_
        refine zR rfl rfl rfl rfl rfl (by first | assumption | exact cload_of (by assumption) rfl) ?_
        refine zZ rfl rfl rfl rfl rfl (fun q => ?_) (fun q => ?_)
        · simp at q
        clear q
        refine pops.nil ?_
        repeat (first | refine zA ?_ | refine zB ?_ | refine zC ?_ | refine zD ?_ | refine zE ?_ | refine zF ?_ | refine zG rfl ?_ | refine zH ?_ | refine zI ?_ | refine zJ ?_ | refine zK ?_ | refine zL ?_ | refine zM ?_ | refine zN ?_ | refine zO ?_)
        refine pcond.f rfl ?_
        repeat (first | refine zA ?_ | refine zB ?_ | refine zC ?_ | refine zD ?_ | refine zE ?_ | refine zF ?_ | refine zG rfl ?_ | refine zH ?_ | refine zI ?_ | refine zJ ?_ | refine zK ?_ | refine zL ?_ | refine zM ?_ | refine zN ?_ | refine zO ?_)
        refine zP rfl rfl rfl rfl rfl ?_
        refine zT rfl rfl rfl rfl rfl rfl (cbin_inc (i := k) (by omega)) ?_
        repeat (first | refine zT rfl rfl rfl rfl rfl rfl (cbin_inc (by omega)) ?_ | refine zP rfl rfl rfl rfl rfl ?_ | refine zQ rfl rfl rfl ?_ | refine zR rfl rfl rfl rfl rfl (by first | assumption | exact cload_of (by assumption) rfl) ?_ | refine zS rfl rfl rfl rfl rfl rfl rfl rfl (by first | exact SlA.len (by assumption) rfl | exact Sl.map (by assumption) rfl | exact Sl.len (by assumption) rfl) ?_)
        refine pops.nil ?_
        refine .n ⟨_, k + 1, rfl, ⟨rfl, rfl, rfl, rfl, rfl, rfl, trivial⟩, (by show m - (k + 1) < m - k; omega), by omega, by omega, rfl⟩
      · repeat (first | refine zA ?_ | refine zB ?_ | refine zC ?_ | refine zD ?_ | refine zE ?_ | refine zF ?_ | refine zG rfl ?_ | refine zH ?_ | refine zI ?_ | refine zJ ?_ | refine zK ?_ | refine zL ?_ | refine zM ?_ | refine zN ?_ | refine zO ?_)
        refine zP rfl rfl rfl rfl rfl ?_
        refine zP rfl rfl rfl rfl rfl ?_
        refine pops.indexAddr rfl rfl rfl rfl rfl rfl hxp ?_
        refine zP rfl rfl rfl rfl rfl ?_
        refine zR rfl rfl rfl rfl rfl hx1 ?_
        repeat (first | refine zT rfl rfl rfl rfl rfl rfl (cbin_inc (by omega)) ?_ | refine zP rfl rfl rfl rfl rfl ?_ | refine zQ rfl rfl rfl ?_ | refine zR rfl rfl rfl rfl rfl (by first | assumption | exact cload_of (by assumption) rfl) ?_ | refine zS rfl rfl rfl rfl rfl rfl rfl rfl (by first | exact SlA.len (by assumption) rfl | exact Sl.map (by assumption) rfl | exact Sl.len (by assumption) rfl) ?_)
        refine pops.nil ?_
        repeat (first | refine zA ?_ | refine zB ?_ | refine zC ?_ | refine zD ?_ | refine zE ?_ | refine zF ?_ | refine zG rfl ?_ | refine zH ?_ | refine zI ?_ | refine zJ ?_ | refine zK ?_ | refine zL ?_ | refine zM ?_ | refine zN ?_ | refine zO ?_)
        repeat (first | refine zT rfl rfl rfl rfl rfl rfl (cbin_inc (by omega)) ?_ | refine zP rfl rfl rfl rfl rfl ?_ | refine zQ rfl rfl rfl ?_ | refine zR rfl rfl rfl rfl rfl (by first | assumption | exact cload_of (by assumption) rfl) ?_ | refine zS rfl rfl rfl rfl rfl rfl rfl rfl (by first | exact SlA.len (by assumption) rfl | exact Sl.map (by assumption) rfl | exact Sl.len (by assumption) rfl) ?_)
        refine pops.nil ?_
        refine .n ⟨_, (i + 1, m), rfl, ⟨rfl, rfl, rfl, rfl, rfl, trivial⟩, (by show L.length - (i + 1) < L.length - i; omega), (by show i + 1 ≤ L.length; omega), rfl, hr6⟩
    · refine zZ rfl rfl rfl rfl rfl (fun q => ?_) (fun q => ?_)
      · have q := of_decide_eq_true q; omega
      clear q
      repeat (first | refine zT rfl rfl rfl rfl rfl rfl (cbin_inc (by omega)) ?_ | refine zP rfl rfl rfl rfl rfl ?_ | refine zQ rfl rfl rfl ?_ | refine zR rfl rfl rfl rfl rfl (by first | assumption | exact cload_of (by assumption) rfl) ?_ | refine zS rfl rfl rfl rfl rfl rfl rfl rfl (by first | exact SlA.len (by assumption) rfl | exact Sl.map (by assumption) rfl | exact Sl.len (by assumption) rfl) ?_)
      refine pops.nil ?_
      repeat (first | refine zA ?_ | refine zB ?_ | refine zC ?_ | refine zD ?_ | refine zE ?_ | refine zF ?_ | refine zG rfl ?_ | refine zH ?_ | refine zI ?_ | refine zJ ?_ | refine zK ?_ | refine zL ?_ | refine zM ?_ | refine zN ?_ | refine zO ?_)
      refine pcond.f rfl ?_
      repeat (first | refine zA ?_ | refine zB ?_ | refine zC ?_ | refine zD ?_ | refine zE ?_ | refine zF ?_ | refine zG rfl ?_ | refine zH ?_ | refine zI ?_ | refine zJ ?_ | refine zK ?_ | refine zL ?_ | refine zM ?_ | refine zN ?_ | refine zO ?_)
      refine zP rfl rfl rfl rfl rfl ?_
      refine zT rfl rfl rfl rfl rfl rfl (cbin_inc (i := u) (by omega)) ?_
      repeat (first | refine zT rfl rfl rfl rfl rfl rfl (cbin_inc (by omega)) ?_ | refine zP rfl rfl rfl rfl rfl ?_ | refine zQ rfl rfl rfl ?_ | refine zR rfl rfl rfl rfl rfl (by first | assumption | exact cload_of (by assumption) rfl) ?_ | refine zS rfl rfl rfl rfl rfl rfl rfl rfl (by first | exact SlA.len (by assumption) rfl | exact Sl.map (by assumption) rfl | exact Sl.len (by assumption) rfl) ?_)
      refine pops.nil ?_
      repeat (first | refine zA ?_ | refine zB ?_ | refine zC ?_ | refine zD ?_ | refine zE ?_ | refine zF ?_ | refine zG rfl ?_ | refine zH ?_ | refine zI ?_ | refine zJ ?_ | refine zK ?_ | refine zL ?_ | refine zM ?_ | refine zN ?_ | refine zO ?_)
      refine Loops.ind 7 (fun k : Nat => [(2, vx), (7, u1), (8, u2), (9, .int .i64 (u : Nat)), (10, .int .i64 (i : Nat)), (11, .int .i64 (k : Nat))])
        (fun k h2 => u + 1 ≤ k ∧ k ≤ m ∧ h2 = h') (fun k => m - k) (u + 1) (by decide) ⟨rfl, rfl, rfl, rfl, rfl, rfl, trivial⟩ ⟨Nat.le_refl _, by omega, rfl⟩ ?_
      rintro k z2 h2 hwf2 ⟨hk1, hk2, he2⟩
      subst he2
      repeat (first | refine zA ?_ | refine zB ?_ | refine zC ?_ | refine zD ?_ | refine zE ?_ | refine zF ?_ | refine zG rfl ?_ | refine zH ?_ | refine zI ?_ | refine zJ ?_ | refine zK ?_ | refine zL ?_ | refine zM ?_ | refine zN ?_ | refine zO ?_)
      refine zP rfl rfl rfl rfl rfl ?_
      refine zP rfl rfl rfl rfl rfl ?_
      refine zP rfl rfl rfl rfl rfl ?_
      refine pops.indexAddr rfl rfl rfl rfl rfl rfl hxp ?_
      refine zP rfl rfl rfl rfl rfl ?_
      refine zR rfl rfl rfl rfl rfl hx1 ?_
      refine zP rfl rfl rfl rfl rfl ?_
      refine pops.nil ?_
      repeat (first | refine zA ?_ | refine zB ?_ | refine zC ?_ | refine zD ?_ | refine zE ?_ | refine zF ?_ | refine zG rfl ?_ | refine zH ?_ | refine zI ?_ | refine zJ ?_ | refine zK ?_ | refine zL ?_ | refine zM ?_ | refine zN ?_ | refine zO ?_)
      refine pcond.d (p := (k : Int) < (m : Nat)) rfl (fun hlt2 => ?_) (fun hge2 => ?_)
      · obtain ⟨y2, hy1', hy2'⟩ := hAg k (by omega)
        have hy3' := hr5 k (by omega) (by omega)
        rw [hy2'] at hy3'
        subst hy3'
        repeat (first | refine zA ?_ | refine zB ?_ | refine zC ?_ | refine zD ?_ | refine zE ?_ | refine zF ?_ | refine zG rfl ?_ | refine zH ?_ | refine zI ?_ | refine zJ ?_ | refine zK ?_ | refine zL ?_ | refine zM ?_ | refine zN ?_ | refine zO ?_)
        refine zP rfl rfl rfl rfl rfl ?_
        refine zP rfl rfl rfl rfl rfl ?_
        refine pops.atI (f := Value.int .i64) rfl rfl rfl rfl rfl rfl rfl hu2 hy1' fun q hq => ?_
        refine zR rfl rfl rfl rfl rfl (by first | assumption | exact cload_of (by assumption) rfl) ?_
        refine zZ rfl rfl rfl rfl rfl (fun q => ?_) (fun q => ?_)
        · simp at q
        clear q
        refine pops.nil ?_
        repeat (first | refine zA ?_ | refine zB ?_ | refine zC ?_ | refine zD ?_ | refine zE ?_ | refine zF ?_ | refine zG rfl ?_ | refine zH ?_ | refine zI ?_ | refine zJ ?_ | refine zK ?_ | refine zL ?_ | refine zM ?_ | refine zN ?_ | refine zO ?_)
        refine pcond.f rfl ?_
        repeat (first | refine zA ?_ | refine zB ?_ | refine zC ?_ | refine zD ?_ | refine zE ?_ | refine zF ?_ | refine zG rfl ?_ | refine zH ?_ | refine zI ?_ | refine zJ ?_ | refine zK ?_ | refine zL ?_ | refine zM ?_ | refine zN ?_ | refine zO ?_)
        refine zP rfl rfl rfl rfl rfl ?_
        refine zT rfl rfl rfl rfl rfl rfl (cbin_inc (i := k) (by omega)) ?_
        repeat (first | refine zT rfl rfl rfl rfl rfl rfl (cbin_inc (by omega)) ?_ | refine zP rfl rfl rfl rfl rfl ?_ | refine zQ rfl rfl rfl ?_ | refine zR rfl rfl rfl rfl rfl (by first | assumption | exact cload_of (by assumption) rfl) ?_ | refine zS rfl rfl rfl rfl rfl rfl rfl rfl (by first | exact SlA.len (by assumption) rfl | exact Sl.map (by assumption) rfl | exact Sl.len (by assumption) rfl) ?_)
        refine pops.nil ?_
        refine .n ⟨_, k + 1, rfl, ⟨rfl, rfl, rfl, rfl, rfl, rfl, trivial⟩, (by show m - (k + 1) < m - k; omega), by omega, by omega, rfl⟩
      · repeat (first | refine zA ?_ | refine zB ?_ | refine zC ?_ | refine zD ?_ | refine zE ?_ | refine zF ?_ | refine zG rfl ?_ | refine zH ?_ | refine zI ?_ | refine zJ ?_ | refine zK ?_ | refine zL ?_ | refine zM ?_ | refine zN ?_ | refine zO ?_)
        refine zP rfl rfl rfl rfl rfl ?_
        refine zP rfl rfl rfl rfl rfl ?_
        refine pops.indexAddr rfl rfl rfl rfl rfl rfl hxp ?_
        refine zP rfl rfl rfl rfl rfl ?_
        refine zR rfl rfl rfl rfl rfl hx1 ?_
        repeat (first | refine zT rfl rfl rfl rfl rfl rfl (cbin_inc (by omega)) ?_ | refine zP rfl rfl rfl rfl rfl ?_ | refine zQ rfl rfl rfl ?_ | refine zR rfl rfl rfl rfl rfl (by first | assumption | exact cload_of (by assumption) rfl) ?_ | refine zS rfl rfl rfl rfl rfl rfl rfl rfl (by first | exact SlA.len (by assumption) rfl | exact Sl.map (by assumption) rfl | exact Sl.len (by assumption) rfl) ?_)
        refine pops.nil ?_
        repeat (first | refine zA ?_ | refine zB ?_ | refine zC ?_ | refine zD ?_ | refine zE ?_ | refine zF ?_ | refine zG rfl ?_ | refine zH ?_ | refine zI ?_ | refine zJ ?_ | refine zK ?_ | refine zL ?_ | refine zM ?_ | refine zN ?_ | refine zO ?_)
        repeat (first | refine zT rfl rfl rfl rfl rfl rfl (cbin_inc (by omega)) ?_ | refine zP rfl rfl rfl rfl rfl ?_ | refine zQ rfl rfl rfl ?_ | refine zR rfl rfl rfl rfl rfl (by first | assumption | exact cload_of (by assumption) rfl) ?_ | refine zS rfl rfl rfl rfl rfl rfl rfl rfl (by first | exact SlA.len (by assumption) rfl | exact Sl.map (by assumption) rfl | exact Sl.len (by assumption) rfl) ?_)
        refine pops.nil ?_
        refine .n ⟨_, (i + 1, m), rfl, ⟨rfl, rfl, rfl, rfl, rfl, trivial⟩, (by show L.length - (i + 1) < L.length - i; omega), (by show i + 1 ≤ L.length; omega), rfl, hr6⟩
  · repeat (first | refine zA ?_ | refine zB ?_ | refine zC ?_ | refine zD ?_ | refine zE ?_ | refine zF ?_ | refine zG rfl ?_ | refine zH ?_ | refine zI ?_ | refine zJ ?_ | refine zK ?_ | refine zL ?_ | refine zM ?_ | refine zN ?_ | refine zO ?_)
    have hi' : i = L.length := by omega
    subst hi'
    rw [List.drop_length] at hcov
    have hun : u = text.length := by
      have : (u : Int) = text.length := hcov
      omega
    refine zP rfl rfl rfl rfl rfl ?_
    refine zP rfl rfl rfl rfl rfl ?_
    refine zS rfl rfl rfl rfl rfl rfl rfl rfl (SlI.len hxx7 rfl) ?_
    refine zZ rfl rfl rfl rfl rfl (fun q => ?_) (fun q => ?_)
    rotate_left
    · have q := of_decide_eq_false q; omega
    repeat (first | refine zT rfl rfl rfl rfl rfl rfl (cbin_inc (by omega)) ?_ | refine zP rfl rfl rfl rfl rfl ?_ | refine zQ rfl rfl rfl ?_ | refine zR rfl rfl rfl rfl rfl (by first | assumption | exact cload_of (by assumption) rfl) ?_ | refine zS rfl rfl rfl rfl rfl rfl rfl rfl (by first | exact SlA.len (by assumption) rfl | exact Sl.map (by assumption) rfl | exact Sl.len (by assumption) rfl) ?_)
    refine pops.callG rfl rfl rfl rfl rfl fn_alive rfl rfl rfl alive_calls fun h11 hwf11 g11 => ?_
    repeat (first | refine zT rfl rfl rfl rfl rfl rfl (cbin_inc (by omega)) ?_ | refine zP rfl rfl rfl rfl rfl ?_ | refine zQ rfl rfl rfl ?_ | refine zR rfl rfl rfl rfl rfl (by first | assumption | exact cload_of (by assumption) rfl) ?_ | refine zS rfl rfl rfl rfl rfl rfl rfl rfl (by first | exact SlA.len (by assumption) rfl | exact Sl.map (by assumption) rfl | exact Sl.len (by assumption) rfl) ?_)
    refine pops.nil ?_
    repeat (first | refine zA ?_ | refine zB ?_ | refine zC ?_ | refine zD ?_ | refine zE ?_ | refine zF ?_ | refine zG rfl ?_ | refine zH ?_ | refine zI ?_ | refine zJ ?_ | refine zK ?_ | refine zL ?_ | refine zM ?_ | refine zN ?_ | refine zO ?_)
    refine pleave.r rfl ?_
    rfl
end Go.Proofs.YtpcoponpfhnhlaaGreatDoor
set_option maxRecDepth 100000
set_option linter.unusedVariables false
set_option linter.unusedSimpArgs false
namespace Go.Proofs.YtpcoponpfhnhlaaGreatDoor
open Go.Cx
open Go.ChangeShapes Go.WideShapes Go.ChangeAt Go.RowKit
namespace of_SegmentCovers
theorem own : ownKnob Tryz.prog.godebug = none := by kernel_rfl
theorem kids : Kids Tryz.prog (· < Tryz.prog.types.size) := kids_rows (by kernel_rfl) (by kernel_rfl)
theorem full : ∀ t e, t < Tryz.prog.types.size → Tryz.prog.underlying t = some (.slice e) → 0 < Tryz.prog.cellsOf e := slices_full_of Tryz.prog (by kernel_rfl)
theorem ptys : PropTys tab ks.int ks.str 64 22 23 25 :=
  ⟨rfl, ⟨_, rfl, rfl⟩, ⟨_, rfl, rfl⟩, rfl, rfl, rfl, rfl, rfl⟩
theorem tys : TabTys tab ks 31 29 22 27 :=
  ⟨⟨_, rfl, rfl⟩, ⟨_, rfl, rfl⟩, rfl, rfl, rfl, rfl, rfl, rfl, rfl, rfl⟩
def cellsD : DataW Unit → Array Value
  | .agg l => (l.flatMap fun x => match x with
    | .lit (.int k n) => [Value.int k n]
    | .agg m => m.map fun y => match y with
      | .lit (.int k n) => Value.int k n
      | _ => Value.nilFunc
    | _ => [Value.nilFunc]).toArray
  | _ => #[]
def layCells (d : DataW Unit) : Obj → Obj
  | .cells _ t frozen => .cells (cellsD d) t frozen
  | o => o
noncomputable def laidWorld (os : Os) : World :=
  { World.holding Tryz.prog os ⟨#[], #[], []⟩ with heap := (((((World.holding Tryz.prog os ⟨#[], #[], []⟩).heap.modify 1 (layCells Rows.laid_unicode_utf8_first)).modify 2 (layCells Rows.laid_unicode_utf8_acceptRanges)).modify 3 (layCells Rows.laid_internal_strconv_uint64pow10)).modify 4 (layCells Rows.laid_math_bits_deBruijn32tab)).modify 5 (layCells Rows.laid_math_bits_deBruijn64tab) }
def nilProp : Value := .agg #[.slice none 0 0, .slice none 0 0]
def nilPropD {H : Type} : DataW H := .agg [.nil, .nil]
def nilTable : Value := .agg #[.slice none 0 0, .slice none 0 0, .slice none 0 0, .slice none 0 0, .slice none 0 0, .slice none 0 0]
def nilTableD {H : Type} : DataW H := .agg [.nil, .nil, .agg [.nil, .nil], .agg [.nil, .nil]]
theorem typed : ∀ t ∈ Tryz.f3.params.toList, tyOk tab 6 t = true := by
  rw [Tryz.params3]
  intro t ht
  have : t ∈ ([25, 31, 26] : List Nat) := ht
  simp only [List.mem_cons, List.not_mem_nil, or_false] at this
  rcases this with rfl | rfl | rfl
  · exact (show tyOk tab 6 25 = true by kernel_rfl)
  · exact (show tyOk tab 6 31 = true by kernel_rfl)
  · exact (show tyOk tab 6 26 = true by kernel_rfl)
theorem contract (H : Type) (enc : TypeId × Value → H) (W : World) (base : Nat) (args : Array Value) (ds gs : List (DataW H)) (before : List MemPlace)
    (hval : ∀ (j : Nat) t v, Tryz.f3.params[j]? = some t → args[j]? = some v → Value.okWide Tryz.prog W .any base t v)
    (hW : DataW.Whole enc Tryz.prog Tryz.f3.params.toList Rows.segmentCoversSpec.vars false W args.toList ds gs before) :
    Calls Tryz.prog 3 args W fun e W' => ∃ v, e = .returned v ∧ Rows.segmentCoversSpec.post enc Tryz.prog Tryz.f3 false true false false W args v W' := by
  have hW' := hW
  obtain ⟨p, q, hA, hV, rfl, hfz, hnd⟩ := hW
  have hA1 : DataW.TrodAll enc Tryz.prog W 0 (fun _ => true) true [25, 31, 26] args.toList ds p := by
    have := hA
    rw [Tryz.params3] at this
    exact this
  obtain ⟨v0, vs0, d0, ds0, p0, q0, hargs0, rfl, rfl, h0, r0⟩ := trodAll_cons hA1
  obtain ⟨v1, vs1, d1, ds1, p1, q1, hargs1, rfl, rfl, h1, r1⟩ := trodAll_cons r0
  obtain ⟨v2, vs2, d2, ds2, p2, q2, hargs2, rfl, rfl, h2, r2⟩ := trodAll_cons r1
  obtain ⟨rfl, rfl, rfl⟩ := trodAll_nil r2
  rw [Tryz.params3] at hval
  have hargs : args = #[v0, v1, v2] := by cases args; simp_all
  subst hargs
  refine (law_calls (f := 3) tab_ok typed hA fun h cvs hh => ?_).mono fun e W' ⟨he, hb⟩ => ⟨_, he, post_law hW' rfl rfl rfl Tryz.underlying4 kids full (by rw [Tryz.params3]; decide) hb⟩
  rw [Tryz.params3] at hh
  match cvs, hh with
  | [c0, c1, c2], ⟨⟨e0, n0⟩, ⟨⟨e1, n1⟩, ⟨⟨e2, n2⟩, _⟩⟩⟩ =>
    obtain ⟨p, hp, hpl⟩ := prop_of ptys e0
    obtain ⟨t, ht, htl⟩ := tab_of tys e1
    obtain ⟨l, hl⟩ := ints_arg (t := 26) (el := 3) rfl rfl rfl (n2 (notAgg_slice Tryz.underlying26 (hval 2 _ _ rfl rfl))) e2
    exact lawCovers30_calls hp ht hl hpl htl
theorem laid_met (os : Os) : laidMet Tryz.prog Rows.segmentCoversRow.laid ((laidWorld os).forCall (fun _ _ => 0) ⟨#[], #[nilProp, nilTable, .slice none 0 0], []⟩).memory :=
  laidMet_of_run' 8 (by kernel_rfl) (by kernel_rfl)
theorem reads (os : Os) {H : Type} (enc : TypeId × Value → H) : ∃ places, DataW.whole enc Tryz.prog ((laidWorld os).forCall (fun _ _ => 0) ⟨#[], #[nilProp, nilTable, .slice none 0 0], []⟩).memory Tryz.f3.params.toList Rows.segmentCoversSpec.vars false (#[nilProp, nilTable, .slice none 0 0] : Array Value).toList 8 = some ([nilPropD, nilTableD, .nil], [], places) :=
  ⟨[], by kernel_rfl⟩
theorem lifted (os : Os) (started : os.Started) (H : Type) (enc : TypeId × Value → H) (F : Stop.Interp) :
    ReturnsInHanded {} Tryz.checked os 3 .any ((OpenSpec.ofChange Rows.segmentCoversSpec).preRow enc Tryz.prog Tryz.f3 Rows.segmentCoversRow.domain false Rows.segmentCoversRow.laid) (((OpenSpec.ofChange Rows.segmentCoversSpec).at F).post enc Tryz.prog Tryz.f3 false true false false) := by
  obtain ⟨places, hx⟩ := reads os enc
  refine returnsInHanded_of_row (C := Tryz.checked) (s := OpenSpec.ofChange Rows.segmentCoversSpec) own started (by kernel_rfl) Tryz.func3
    (witness_row_at (enc := enc) (C := Tryz.checked) false (laidWorld os) #[nilProp, nilTable, .slice none 0 0] rfl (by kernel_rfl) (by kernel_rfl) (by kernel_rfl)
      (OpenSpec.preRow_of_cond 8 hx (by kernel_rfl) (fun k hk => by cases hk) (by kernel_rfl) (laid_met os))) ?_
  intro W base args ds gs before hval hW _ _ _ hL _ _
  exact contract H enc W base args ds gs before hval hW
theorem said : Rows.SegmentCoversSaid :=
  OpenClaim.holds_of_cond 3 Tryz.f3 rfl rfl rfl rfl rfl rfl rfl ⟨rfl, rfl, rfl, rfl, rfl⟩ rfl rfl rfl rfl rfl (by kernel_rfl) Tryz.func3 (by kernel_rfl)
    (of_decide_eq_true (by kernel_rfl)) (by unfold Func.isWrapper; first | (rw [if_pos (by decide +kernel)]; kernel_rfl) | (rw [if_neg (by decide +kernel)]; exact ⟨rfl, rfl⟩))
    (fun os started H enc _ F => by rw [OpenClaim.pre_eq_preRow]; exact lifted os started H enc F)
theorem plain (f : FuncId) (fn : Func) (hf : Tryz.pinned.checked.prog.funcNamed "unicodetext/unicodetextlaw30.SegmentCovers" = some f) (hfn : Tryz.pinned.checked.prog.funcs[f]? = some fn) :
    true = Tryz.pinned.checked.prog.looks [] ∧ ∀ (j : Nat) t, fn.params[j]? = some t → Tryz.pinned.checked.prog.wantsStandIn t = false := by
  obtain rfl : f = 3 := Option.some.inj ((show Tryz.prog.funcNamed "unicodetext/unicodetextlaw30.SegmentCovers" = some 3 by kernel_rfl).symm.trans hf) |>.symm
  obtain rfl : fn = Tryz.f3 := (Option.some.inj (Tryz.func3.symm.trans hfn)).symm
  refine ⟨by kernel_rfl, fun j t ht => ?_⟩
  have hm : t ∈ ([25, 31, 26] : List Nat) := by
    have := Array.mem_of_getElem? ht
    rw [Tryz.params3] at this
    simpa using this
  simp only [List.mem_cons, List.not_mem_nil, or_false] at hm
  rcases hm with rfl | rfl | rfl
  · exact (show Tryz.prog.wantsStandIn 25 = false by kernel_rfl)
  · exact (show Tryz.prog.wantsStandIn 31 = false by kernel_rfl)
  · exact (show Tryz.prog.wantsStandIn 26 = false by kernel_rfl)
end of_SegmentCovers
theorem segmentCovers_card : Rows.SegmentCoversCardSaid :=
  Claim7.holds_tied_plain_at .later [] _ _ _ _ of_SegmentCovers.said (fun _ h => by cases h) (by kernel_rfl) (fun _ h => by cases h) segmentCovers_row_tie rfl ⟨rfl, rfl⟩ (by kernel_rfl) rfl of_SegmentCovers.plain (by kernel_rfl)
end Go.Proofs.YtpcoponpfhnhlaaGreatDoor