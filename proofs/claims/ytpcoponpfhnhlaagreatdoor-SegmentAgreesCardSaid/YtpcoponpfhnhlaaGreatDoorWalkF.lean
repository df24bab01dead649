/- Walks through the functions that the statement reaches, and the statement. Conditions: none. -/
import Derived.Test.YtpcoponpfhnhlaaGreatDoorWalkE
import Derived.Test.YtpcoponpfhnhlaaGreatDoorWalkB
import Derived.Test.YtpcoponpfhnhlaaGreatDoorCxE
import Derived.Test.YtpcoponpfhnhlaaGreatDoorCards
import Derived.Test.YtpcoponpfhnhlaaGreatDoorTie
import Derived.WalkKit
import Derived.ProofKit
import Derived.OpenShut
import Derived.Deep.DeepHandedRow
set_option maxRecDepth 100000
set_option linter.unusedVariables false
set_option linter.unusedSimpArgs false
namespace Go.Proofs.YtpcoponpfhnhlaaGreatDoor
open Go.Cx
variable {w : World} {h : CH}
theorem equal_same {va vb : Value} {a : List Int} (ha : SlI tab ks.int h va a) (hb : SlI tab ks.int h vb a) : CalF (X w) 16 [va, vb] h fun r h' => r = .ret (.bool true) ∧ Gr h h' :=
  (equal_calls ha hb).mono fun r h' hh => ⟨by rw [hh.1, decide_eq_true rfl], hh.2⟩
theorem few30_le {p : PropD} {t : TabD} {text : List Int} (hf : few30 p t text = true) : text.length ≤ 40 ∧ p.spans.length ≤ 16 := by
  unfold few30 at hf
  simp at hf
  omega
theorem SBoundsS_calls {vp vt vx : Value} {p : PropD} {t : TabD} {text : List Int} (hp : PropV tab ks.str 64 h vp p) (ht : TabV tab ks h vt t) (hxx : SlI tab ks.int h vx text) (hpl : TextsLt p.names) (htl : TextsLt t.classes) (hxl : text.length ≤ 1000) (hsl : p.spans.length < 1000000) :
    CalF (X w) 18 [vp, vt, vx] h fun r h' => (∃ u, r = .ret u ∧ SlI tab ks.int h' u (boundsD p t text)) ∧ Gr h h' :=
  (SBounds_calls hp ht hxx hpl htl hxl hsl).mono fun r h' hh => by
    obtain ⟨⟨u, b', rfl, _, hown⟩, g⟩ := hh
    have := bounds_le (p := p) (t := t) (text := text)
    exact ⟨⟨u, rfl, hown.sl rfl rfl rfl (by rw [List.length_map]; omega)⟩, g⟩
end Go.Proofs.YtpcoponpfhnhlaaGreatDoor
set_option maxRecDepth 100000
set_option linter.unusedVariables false
set_option linter.unusedSimpArgs false
namespace Go.Proofs.YtpcoponpfhnhlaaGreatDoor
open Go.Cx
variable {w : World} {h : CH}
theorem fn_lawAgrees : tab.fn 4 = some Tryz.f4 := by kernel_rfl
set_option maxHeartbeats 2000000 in
theorem lawAgrees_calls {vx vt : Value} {x2 : TwoD} {t : TabD} (hx2 : TwoV tab ks.int ks.str 64 h vx x2) (ht : TabV tab ks h vt t) (hpl : TextsLt x2.p.names) (hql : TextsLt x2.q.names) (htl : TextsLt t.classes) :
    CalF (X w) 4 [vx, vt] h fun r h' => r = .ret (.bool true) := by
  refine CalF.wf fun hwf => ?_
  have htV := ht
  obtain ⟨c, s, c2, s2, va, vb, rfl, oab, hp, hq, ha, hb⟩ := hx2
  obtain ⟨oc, os, _, _⟩ := hp.one
  obtain ⟨oc2, os2, _, _⟩ := hq.one
  obtain ⟨c', a, x, y, x', y', rfl, ho, hcl, hac, hx, hy, hx', hy'⟩ := ht
  clear hac hx hy hx' hy' hcl
  simp only [Bool.and_eq_true] at ho oab
  obtain ⟨p, q, la, lb⟩ := x2
  simp only at hp hq ha hb hpl hql
  obtain ⟨ava, cva, rfl⟩ := Sl.formM ha
  obtain ⟨avb, cvb, rfl⟩ := Sl.formM hb
  refine CalF.intro fn_lawAgrees rfl (Nat.le_of_ble_eq_true rfl) ?_
  repeat (first | refine zA ?_ | refine zB ?_ | refine zC ?_ | refine zD ?_ | refine zE ?_ | refine zF ?_ | refine zG rfl ?_ | refine zH ?_ | refine zI ?_ | refine zJ ?_ | refine zK ?_ | refine zL ?_ | refine zM ?_ | refine zN ?_ | refine zO ?_)
  refine pops.box (cs := [c, s, c2, s2, .slice ava la.length cva, .slice avb lb.length cvb]) rfl rfl rfl rfl (by simp [oc, os, oc2, os2]; exact ⟨rfl, rfl⟩) rfl rfl hwf fun b h1 hb1 hwf1 g1 hc => ?_
  refine pops.box (cs := [c', a, x, y, x', y']) rfl rfl rfl rfl (by simp [ho]) rfl rfl hwf1 fun bt h2 hbt hwf2 g2 hct => ?_
  have g02 := g1.trans g2
  replace hc := g2.at hwf1 hc
  refine zP rfl rfl rfl rfl rfl ?_
  refine pops.nil ?_
  repeat (first | refine zA ?_ | refine zB ?_ | refine zC ?_ | refine zD ?_ | refine zE ?_ | refine zF ?_ | refine zG rfl ?_ | refine zH ?_ | refine zI ?_ | refine zJ ?_ | refine zK ?_ | refine zL ?_ | refine zM ?_ | refine zN ?_ | refine zO ?_)
  refine PG.startA 41 2199023255551 _ rfl rfl rfl rfl ?_
  repeat (first | refine zU (by decide +kernel) ?_ | refine zV (by decide +kernel) rfl rfl rfl rfl ?_ | refine zW (by decide +kernel) rfl rfl rfl rfl rfl (by first | assumption | exact cload_of (by assumption) rfl) ?_ | refine zX (by decide +kernel) rfl rfl rfl ?_)
  refine PG.nil ?_
  refine pd1.callG 5 rfl (by kernel_rfl) rfl rfl rfl rfl rfl fn_few30 rfl rfl rfl (few30_calls (hp.gr hwf g02) (htV.gr hwf g02) (Sl.gr ha hwf g02)) fun h3 hwf3 g3 => ?_
  replace hc := g3.at hwf2 hc
  replace hct := g3.at hwf2 hct
  have g03 := g02.trans g3
  refine ⟨_, by (repeat (first | exact Reck.nil | (apply Reck.dropI; decide +kernel) | (apply Reck.keep; rfl) | (apply Reck.load; rfl; rfl; first | assumption | exact cload_of (by assumption) rfl) | (apply Reck.same; rfl) | (apply Reck.inc; rfl; rfl; rfl; omega))), ?_⟩
  cases hf : few30 p t la with
  | false =>
    repeat (first | refine zU (by decide +kernel) ?_ | refine zV (by decide +kernel) rfl rfl rfl rfl ?_ | refine zW (by decide +kernel) rfl rfl rfl rfl rfl (by first | assumption | exact cload_of (by assumption) rfl) ?_ | refine zX (by decide +kernel) rfl rfl rfl ?_)
    refine PG.nil ?_
    refine pd1.skipL 13 rfl (by kernel_rfl) rfl rfl rfl (by (repeat (first | exact Reck.nil | (apply Reck.dropI; decide +kernel) | (apply Reck.keep; rfl) | (apply Reck.load; rfl; rfl; first | assumption | exact cload_of (by assumption) rfl) | (apply Reck.same; rfl) | (apply Reck.inc; rfl; rfl; rfl; omega)))) ?_
    repeat (first | refine zU (by decide +kernel) ?_ | refine zV (by decide +kernel) rfl rfl rfl rfl ?_ | refine zW (by decide +kernel) rfl rfl rfl rfl rfl (by first | assumption | exact cload_of (by assumption) rfl) ?_ | refine zX (by decide +kernel) rfl rfl rfl ?_)
    refine PG.nil ?_
    refine pd1.skipL 22 rfl (by kernel_rfl) rfl rfl rfl (by (repeat (first | exact Reck.nil | (apply Reck.dropI; decide +kernel) | (apply Reck.keep; rfl) | (apply Reck.load; rfl; rfl; first | assumption | exact cload_of (by assumption) rfl) | (apply Reck.same; rfl) | (apply Reck.inc; rfl; rfl; rfl; omega)))) ?_
    repeat (first | refine zU (by decide +kernel) ?_ | refine zV (by decide +kernel) rfl rfl rfl rfl ?_ | refine zW (by decide +kernel) rfl rfl rfl rfl rfl (by first | assumption | exact cload_of (by assumption) rfl) ?_ | refine zX (by decide +kernel) rfl rfl rfl ?_)
    refine PG.nil ?_
    refine pd1.skipL 28 rfl (by kernel_rfl) rfl rfl rfl (by (repeat (first | exact Reck.nil | (apply Reck.dropI; decide +kernel) | (apply Reck.keep; rfl) | (apply Reck.load; rfl; rfl; first | assumption | exact cload_of (by assumption) rfl) | (apply Reck.same; rfl) | (apply Reck.inc; rfl; rfl; rfl; omega)))) ?_
    repeat (first | refine zU (by decide +kernel) ?_ | refine zV (by decide +kernel) rfl rfl rfl rfl ?_ | refine zW (by decide +kernel) rfl rfl rfl rfl rfl (by first | assumption | exact cload_of (by assumption) rfl) ?_ | refine zX (by decide +kernel) rfl rfl rfl ?_)
    refine PG.nil ?_
    refine pd1.skipL 29 rfl (by kernel_rfl) rfl rfl rfl (by (repeat (first | exact Reck.nil | (apply Reck.dropI; decide +kernel) | (apply Reck.keep; rfl) | (apply Reck.load; rfl; rfl; first | assumption | exact cload_of (by assumption) rfl) | (apply Reck.same; rfl) | (apply Reck.inc; rfl; rfl; rfl; omega)))) ?_
    repeat (first | refine zU (by decide +kernel) ?_ | refine zV (by decide +kernel) rfl rfl rfl rfl ?_ | refine zW (by decide +kernel) rfl rfl rfl rfl rfl (by first | assumption | exact cload_of (by assumption) rfl) ?_ | refine zX (by decide +kernel) rfl rfl rfl ?_)
    refine PG.nil ?_
    refine pd1.finA (by kernel_rfl) (by decide +kernel) ?_
    repeat (first | refine zA ?_ | refine zB ?_ | refine zC ?_ | refine zD ?_ | refine zE ?_ | refine zF ?_ | refine zG rfl ?_ | refine zH ?_ | refine zI ?_ | refine zJ ?_ | refine zK ?_ | refine zL ?_ | refine zM ?_ | refine zN ?_ | refine zO ?_)
    refine pcond.t rfl ?_
    repeat (first | refine zA ?_ | refine zB ?_ | refine zC ?_ | refine zD ?_ | refine zE ?_ | refine zF ?_ | refine zG rfl ?_ | refine zH ?_ | refine zI ?_ | refine zJ ?_ | refine zK ?_ | refine zL ?_ | refine zM ?_ | refine zN ?_ | refine zO ?_)
    refine pops.callG rfl rfl rfl rfl rfl fn_alive rfl rfl rfl alive_calls fun h9 hwf9 g9 => ?_
    repeat (first | refine zT rfl rfl rfl rfl rfl rfl (cbin_inc (by omega)) ?_ | refine zP rfl rfl rfl rfl rfl ?_ | refine zQ rfl rfl rfl ?_ | refine zR rfl rfl rfl rfl rfl (by first | assumption | exact cload_of (by assumption) rfl) ?_ | refine zS rfl rfl rfl rfl rfl rfl rfl rfl (by first | exact SlA.len (by assumption) rfl | exact Sl.map (by assumption) rfl | exact Sl.len (by assumption) rfl) ?_)
    refine pops.nil ?_
    repeat (first | refine zA ?_ | refine zB ?_ | refine zC ?_ | refine zD ?_ | refine zE ?_ | refine zF ?_ | refine zG rfl ?_ | refine zH ?_ | refine zI ?_ | refine zJ ?_ | refine zK ?_ | refine zL ?_ | refine zM ?_ | refine zN ?_ | refine zO ?_)
    refine pleave.r rfl ?_
    rfl
  | true =>
  obtain ⟨hal, hpsl⟩ := few30_le hf
  repeat (first | refine zU (by decide +kernel) ?_ | refine zV (by decide +kernel) rfl rfl rfl rfl ?_ | refine zW (by decide +kernel) rfl rfl rfl rfl rfl (by first | assumption | exact cload_of (by assumption) rfl) ?_ | refine zX (by decide +kernel) rfl rfl rfl ?_)
  refine PG.nil ?_
  refine pd1.callG 13 rfl (by kernel_rfl) rfl rfl rfl rfl rfl fn_few30 rfl rfl rfl (few30_calls (hq.gr hwf g03) (htV.gr hwf g03) (Sl.gr hb hwf g03)) fun h4 hwf4 g4 => ?_
  replace hc := g4.at hwf3 hc
  replace hct := g4.at hwf3 hct
  have g04 := g03.trans g4
  refine ⟨_, by (repeat (first | exact Reck.nil | (apply Reck.dropI; decide +kernel) | (apply Reck.keep; rfl) | (apply Reck.load; rfl; rfl; first | assumption | exact cload_of (by assumption) rfl) | (apply Reck.same; rfl) | (apply Reck.inc; rfl; rfl; rfl; omega))), ?_⟩
  cases hf2 : few30 q t lb with
  | false =>
    repeat (first | refine zU (by decide +kernel) ?_ | refine zV (by decide +kernel) rfl rfl rfl rfl ?_ | refine zW (by decide +kernel) rfl rfl rfl rfl rfl (by first | assumption | exact cload_of (by assumption) rfl) ?_ | refine zX (by decide +kernel) rfl rfl rfl ?_)
    refine PG.nil ?_
    refine pd1.skipL 22 rfl (by kernel_rfl) rfl rfl rfl (by (repeat (first | exact Reck.nil | (apply Reck.dropI; decide +kernel) | (apply Reck.keep; rfl) | (apply Reck.load; rfl; rfl; first | assumption | exact cload_of (by assumption) rfl) | (apply Reck.same; rfl) | (apply Reck.inc; rfl; rfl; rfl; omega)))) ?_
    repeat (first | refine zU (by decide +kernel) ?_ | refine zV (by decide +kernel) rfl rfl rfl rfl ?_ | refine zW (by decide +kernel) rfl rfl rfl rfl rfl (by first | assumption | exact cload_of (by assumption) rfl) ?_ | refine zX (by decide +kernel) rfl rfl rfl ?_)
    refine PG.nil ?_
    refine pd1.skipL 28 rfl (by kernel_rfl) rfl rfl rfl (by (repeat (first | exact Reck.nil | (apply Reck.dropI; decide +kernel) | (apply Reck.keep; rfl) | (apply Reck.load; rfl; rfl; first | assumption | exact cload_of (by assumption) rfl) | (apply Reck.same; rfl) | (apply Reck.inc; rfl; rfl; rfl; omega)))) ?_
    repeat (first | refine zU (by decide +kernel) ?_ | refine zV (by decide +kernel) rfl rfl rfl rfl ?_ | refine zW (by decide +kernel) rfl rfl rfl rfl rfl (by first | assumption | exact cload_of (by assumption) rfl) ?_ | refine zX (by decide +kernel) rfl rfl rfl ?_)
    refine PG.nil ?_
    refine pd1.skipL 29 rfl (by kernel_rfl) rfl rfl rfl (by (repeat (first | exact Reck.nil | (apply Reck.dropI; decide +kernel) | (apply Reck.keep; rfl) | (apply Reck.load; rfl; rfl; first | assumption | exact cload_of (by assumption) rfl) | (apply Reck.same; rfl) | (apply Reck.inc; rfl; rfl; rfl; omega)))) ?_
    repeat (first | refine zU (by decide +kernel) ?_ | refine zV (by decide +kernel) rfl rfl rfl rfl ?_ | refine zW (by decide +kernel) rfl rfl rfl rfl rfl (by first | assumption | exact cload_of (by assumption) rfl) ?_ | refine zX (by decide +kernel) rfl rfl rfl ?_)
    refine PG.nil ?_
    refine pd1.finA (by kernel_rfl) (by decide +kernel) ?_
    repeat (first | refine zA ?_ | refine zB ?_ | refine zC ?_ | refine zD ?_ | refine zE ?_ | refine zF ?_ | refine zG rfl ?_ | refine zH ?_ | refine zI ?_ | refine zJ ?_ | refine zK ?_ | refine zL ?_ | refine zM ?_ | refine zN ?_ | refine zO ?_)
    refine pcond.t rfl ?_
    repeat (first | refine zA ?_ | refine zB ?_ | refine zC ?_ | refine zD ?_ | refine zE ?_ | refine zF ?_ | refine zG rfl ?_ | refine zH ?_ | refine zI ?_ | refine zJ ?_ | refine zK ?_ | refine zL ?_ | refine zM ?_ | refine zN ?_ | refine zO ?_)
    refine pops.callG rfl rfl rfl rfl rfl fn_alive rfl rfl rfl alive_calls fun h9 hwf9 g9 => ?_
    repeat (first | refine zT rfl rfl rfl rfl rfl rfl (cbin_inc (by omega)) ?_ | refine zP rfl rfl rfl rfl rfl ?_ | refine zQ rfl rfl rfl ?_ | refine zR rfl rfl rfl rfl rfl (by first | assumption | exact cload_of (by assumption) rfl) ?_ | refine zS rfl rfl rfl rfl rfl rfl rfl rfl (by first | exact SlA.len (by assumption) rfl | exact Sl.map (by assumption) rfl | exact Sl.len (by assumption) rfl) ?_)
    refine pops.nil ?_
    repeat (first | refine zA ?_ | refine zB ?_ | refine zC ?_ | refine zD ?_ | refine zE ?_ | refine zF ?_ | refine zG rfl ?_ | refine zH ?_ | refine zI ?_ | refine zJ ?_ | refine zK ?_ | refine zL ?_ | refine zM ?_ | refine zN ?_ | refine zO ?_)
    refine pleave.r rfl ?_
    rfl
  | true =>
  obtain ⟨hbl, hqsl⟩ := few30_le hf2
  repeat (first | refine zU (by decide +kernel) ?_ | refine zV (by decide +kernel) rfl rfl rfl rfl ?_ | refine zW (by decide +kernel) rfl rfl rfl rfl rfl (by first | assumption | exact cload_of (by assumption) rfl) ?_ | refine zX (by decide +kernel) rfl rfl rfl ?_)
  refine PG.nil ?_
  refine pd1.callR 22 rfl (by kernel_rfl) rfl rfl rfl rfl rfl fn_SClasses rfl rfl rfl ((SClasses_calls (hp.gr hwf g04) (htV.gr hwf g04) (Sl.gr ha hwf g04) hpl htl (by omega) (by omega)).monoW fun r h5 hwf5 hh => ?_)
  obtain ⟨⟨u1, rfl, hu1⟩, g5⟩ := hh
  replace hc := g5.at hwf4 hc
  replace hct := g5.at hwf4 hct
  have g05 := g04.trans g5
  refine ⟨u1, rfl, _, by (repeat (first | exact Reck.nil | (apply Reck.dropI; decide +kernel) | (apply Reck.keep; rfl) | (apply Reck.load; rfl; rfl; first | assumption | exact cload_of (by assumption) rfl) | (apply Reck.same; rfl) | (apply Reck.inc; rfl; rfl; rfl; omega))), ?_⟩
  repeat (first | refine zU (by decide +kernel) ?_ | refine zV (by decide +kernel) rfl rfl rfl rfl ?_ | refine zW (by decide +kernel) rfl rfl rfl rfl rfl (by first | assumption | exact cload_of (by assumption) rfl) ?_ | refine zX (by decide +kernel) rfl rfl rfl ?_)
  refine PG.nil ?_
  refine pd1.callR 28 rfl (by kernel_rfl) rfl rfl rfl rfl rfl fn_SClasses rfl rfl rfl ((SClasses_calls (hq.gr hwf g05) (htV.gr hwf g05) (Sl.gr hb hwf g05) hql htl (by omega) (by omega)).monoW fun r h6 hwf6 hh => ?_)
  obtain ⟨⟨u2, rfl, hu2⟩, g6⟩ := hh
  replace hc := g6.at hwf5 hc
  replace hct := g6.at hwf5 hct
  have g06 := g05.trans g6
  refine ⟨u2, rfl, _, by (repeat (first | exact Reck.nil | (apply Reck.dropI; decide +kernel) | (apply Reck.keep; rfl) | (apply Reck.load; rfl; rfl; first | assumption | exact cload_of (by assumption) rfl) | (apply Reck.same; rfl) | (apply Reck.inc; rfl; rfl; rfl; omega))), ?_⟩
  repeat (first | refine zU (by decide +kernel) ?_ | refine zV (by decide +kernel) rfl rfl rfl rfl ?_ | refine zW (by decide +kernel) rfl rfl rfl rfl rfl (by first | assumption | exact cload_of (by assumption) rfl) ?_ | refine zX (by decide +kernel) rfl rfl rfl ?_)
  refine PG.nil ?_
  refine pd1.callG 29 rfl (by kernel_rfl) rfl rfl rfl rfl rfl fn_equal rfl rfl rfl (equal_calls (Sl.gr hu1 hwf5 g6) hu2) fun h7 hwf7 g7 => ?_
  replace hc := g7.at hwf6 hc
  replace hct := g7.at hwf6 hct
  have g07 := g06.trans g7
  refine ⟨_, by (repeat (first | exact Reck.nil | (apply Reck.dropI; decide +kernel) | (apply Reck.keep; rfl) | (apply Reck.load; rfl; rfl; first | assumption | exact cload_of (by assumption) rfl) | (apply Reck.same; rfl) | (apply Reck.inc; rfl; rfl; rfl; omega))), ?_⟩
  cases heq : decide (clsD p t la = clsD q t lb) with
  | false =>
    repeat (first | refine zU (by decide +kernel) ?_ | refine zV (by decide +kernel) rfl rfl rfl rfl ?_ | refine zW (by decide +kernel) rfl rfl rfl rfl rfl (by first | assumption | exact cload_of (by assumption) rfl) ?_ | refine zX (by decide +kernel) rfl rfl rfl ?_)
    refine PG.nil ?_
    refine pd1.finA (by kernel_rfl) (by decide +kernel) ?_
    repeat (first | refine zA ?_ | refine zB ?_ | refine zC ?_ | refine zD ?_ | refine zE ?_ | refine zF ?_ | refine zG rfl ?_ | refine zH ?_ | refine zI ?_ | refine zJ ?_ | refine zK ?_ | refine zL ?_ | refine zM ?_ | refine zN ?_ | refine zO ?_)
    refine pcond.t rfl ?_
    repeat (first | refine zA ?_ | refine zB ?_ | refine zC ?_ | refine zD ?_ | refine zE ?_ | refine zF ?_ | refine zG rfl ?_ | refine zH ?_ | refine zI ?_ | refine zJ ?_ | refine zK ?_ | refine zL ?_ | refine zM ?_ | refine zN ?_ | refine zO ?_)
    refine pops.callG rfl rfl rfl rfl rfl fn_alive rfl rfl rfl alive_calls fun h9 hwf9 g9 => ?_
    repeat (first | refine zT rfl rfl rfl rfl rfl rfl (cbin_inc (by omega)) ?_ | refine zP rfl rfl rfl rfl rfl ?_ | refine zQ rfl rfl rfl ?_ | refine zR rfl rfl rfl rfl rfl (by first | assumption | exact cload_of (by assumption) rfl) ?_ | refine zS rfl rfl rfl rfl rfl rfl rfl rfl (by first | exact SlA.len (by assumption) rfl | exact Sl.map (by assumption) rfl | exact Sl.len (by assumption) rfl) ?_)
    refine pops.nil ?_
    repeat (first | refine zA ?_ | refine zB ?_ | refine zC ?_ | refine zD ?_ | refine zE ?_ | refine zF ?_ | refine zG rfl ?_ | refine zH ?_ | refine zI ?_ | refine zJ ?_ | refine zK ?_ | refine zL ?_ | refine zM ?_ | refine zN ?_ | refine zO ?_)
    refine pleave.r rfl ?_
    rfl
  | true =>
  have heq := of_decide_eq_true heq
  by_cases hlen : la.length = lb.length
  rotate_left
  · repeat refine zU (by decide +kernel) ?_
    refine zV (by decide +kernel) rfl rfl rfl rfl ?_
    refine zV (by decide +kernel) rfl rfl rfl rfl ?_
    refine zV (by decide +kernel) rfl rfl rfl rfl ?_
    refine zV (by decide +kernel) rfl rfl rfl rfl ?_
    refine zW (by decide +kernel) rfl rfl rfl rfl rfl (by first | assumption | exact cload_of (by assumption) rfl) ?_
    refine zV (by decide +kernel) rfl rfl rfl rfl ?_
    refine zV (by decide +kernel) rfl rfl rfl rfl ?_
    refine zW (by decide +kernel) rfl rfl rfl rfl rfl (by first | assumption | exact cload_of (by assumption) rfl) ?_
    refine zV (by decide +kernel) rfl rfl rfl rfl ?_
    refine zV (by decide +kernel) rfl rfl rfl (congrArg (fun b => some (Value.bool !b)) (decide_eq_false (show ¬ ((la.length : Int) = (lb.length : Int)) by omega))) ?_
    repeat (first | refine zU (by decide +kernel) ?_ | refine zV (by decide +kernel) rfl rfl rfl rfl ?_ | refine zW (by decide +kernel) rfl rfl rfl rfl rfl (by first | assumption | exact cload_of (by assumption) rfl) ?_ | refine zX (by decide +kernel) rfl rfl rfl ?_)
    refine PG.nil ?_
    refine pd1.finA (by kernel_rfl) (by decide +kernel) ?_
    repeat (first | refine zA ?_ | refine zB ?_ | refine zC ?_ | refine zD ?_ | refine zE ?_ | refine zF ?_ | refine zG rfl ?_ | refine zH ?_ | refine zI ?_ | refine zJ ?_ | refine zK ?_ | refine zL ?_ | refine zM ?_ | refine zN ?_ | refine zO ?_)
    refine pcond.t rfl ?_
    repeat (first | refine zA ?_ | refine zB ?_ | refine zC ?_ | refine zD ?_ | refine zE ?_ | refine zF ?_ | refine zG rfl ?_ | refine zH ?_ | refine zI ?_ | refine zJ ?_ | refine zK ?_ | refine zL ?_ | refine zM ?_ | refine zN ?_ | refine zO ?_)
    refine pops.callG rfl rfl rfl rfl rfl fn_alive rfl rfl rfl alive_calls fun h9 hwf9 g9 => ?_
    repeat (first | refine zT rfl rfl rfl rfl rfl rfl (cbin_inc (by omega)) ?_ | refine zP rfl rfl rfl rfl rfl ?_ | refine zQ rfl rfl rfl ?_ | refine zR rfl rfl rfl rfl rfl (by first | assumption | exact cload_of (by assumption) rfl) ?_ | refine zS rfl rfl rfl rfl rfl rfl rfl rfl (by first | exact SlA.len (by assumption) rfl | exact Sl.map (by assumption) rfl | exact Sl.len (by assumption) rfl) ?_)
    refine pops.nil ?_
    repeat (first | refine zA ?_ | refine zB ?_ | refine zC ?_ | refine zD ?_ | refine zE ?_ | refine zF ?_ | refine zG rfl ?_ | refine zH ?_ | refine zI ?_ | refine zJ ?_ | refine zK ?_ | refine zL ?_ | refine zM ?_ | refine zN ?_ | refine zO ?_)
    refine pleave.r rfl ?_
    rfl
  repeat refine zU (by decide +kernel) ?_
  refine zV (by decide +kernel) rfl rfl rfl rfl ?_
  refine zV (by decide +kernel) rfl rfl rfl rfl ?_
  refine zV (by decide +kernel) rfl rfl rfl rfl ?_
  refine zV (by decide +kernel) rfl rfl rfl rfl ?_
  refine zW (by decide +kernel) rfl rfl rfl rfl rfl (by first | assumption | exact cload_of (by assumption) rfl) ?_
  refine zV (by decide +kernel) rfl rfl rfl rfl ?_
  refine zV (by decide +kernel) rfl rfl rfl rfl ?_
  refine zW (by decide +kernel) rfl rfl rfl rfl rfl (by first | assumption | exact cload_of (by assumption) rfl) ?_
  refine zV (by decide +kernel) rfl rfl rfl rfl ?_
  refine zV (by decide +kernel) rfl rfl rfl (congrArg (fun b => some (Value.bool !b)) (decide_eq_true (show ((la.length : Int) = (lb.length : Int)) by omega))) ?_
  repeat (first | refine zU (by decide +kernel) ?_ | refine zV (by decide +kernel) rfl rfl rfl rfl ?_ | refine zW (by decide +kernel) rfl rfl rfl rfl rfl (by first | assumption | exact cload_of (by assumption) rfl) ?_ | refine zX (by decide +kernel) rfl rfl rfl ?_)
  refine PG.nil ?_
  refine pd1.finA (by kernel_rfl) (by decide +kernel) ?_
  repeat (first | refine zA ?_ | refine zB ?_ | refine zC ?_ | refine zD ?_ | refine zE ?_ | refine zF ?_ | refine zG rfl ?_ | refine zH ?_ | refine zI ?_ | refine zJ ?_ | refine zK ?_ | refine zL ?_ | refine zM ?_ | refine zN ?_ | refine zO ?_)
  refine pcond.f rfl ?_
  repeat (first | refine zA ?_ | refine zB ?_ | refine zC ?_ | refine zD ?_ | refine zE ?_ | refine zF ?_ | refine zG rfl ?_ | refine zH ?_ | refine zI ?_ | refine zJ ?_ | refine zK ?_ | refine zL ?_ | refine zM ?_ | refine zN ?_ | refine zO ?_)
  have eB : boundsD q t lb = boundsD p t la := by unfold boundsD; rw [heq]
  have eP : partsD q t lb = partsD p t la := by unfold partsD cutsD; rw [eB, hlen]
  refine PG.startA 47 140737488355327 _ rfl rfl rfl rfl ?_
  repeat (first | refine zU (by decide +kernel) ?_ | refine zV (by decide +kernel) rfl rfl rfl rfl ?_ | refine zW (by decide +kernel) rfl rfl rfl rfl rfl (by first | assumption | exact cload_of (by assumption) rfl) ?_ | refine zX (by decide +kernel) rfl rfl rfl ?_)
  refine PG.nil ?_
  refine pd1.callR 5 rfl (by kernel_rfl) rfl rfl rfl rfl rfl fn_SActions rfl rfl rfl ((SActions_calls (hp.gr hwf g07) (htV.gr hwf g07) (Sl.gr ha hwf g07) hpl htl (by omega) (by omega)).monoW fun r h8 hwf8 hh => ?_)
  obtain ⟨⟨u3, rfl, hu3⟩, g8⟩ := hh
  replace hc := g8.at hwf7 hc
  replace hct := g8.at hwf7 hct
  have g08 := g07.trans g8
  refine ⟨u3, rfl, _, by (repeat (first | exact Reck.nil | (apply Reck.dropI; decide +kernel) | (apply Reck.keep; rfl) | (apply Reck.load; rfl; rfl; first | assumption | exact cload_of (by assumption) rfl) | (apply Reck.same; rfl) | (apply Reck.inc; rfl; rfl; rfl; omega))), ?_⟩
  repeat (first | refine zU (by decide +kernel) ?_ | refine zV (by decide +kernel) rfl rfl rfl rfl ?_ | refine zW (by decide +kernel) rfl rfl rfl rfl rfl (by first | assumption | exact cload_of (by assumption) rfl) ?_ | refine zX (by decide +kernel) rfl rfl rfl ?_)
  refine PG.nil ?_
  refine pd1.callR 11 rfl (by kernel_rfl) rfl rfl rfl rfl rfl fn_SActions rfl rfl rfl ((SActions_calls (hq.gr hwf g08) (htV.gr hwf g08) (Sl.gr hb hwf g08) hql htl (by omega) (by omega)).monoW fun r h9 hwf9 hh => ?_)
  obtain ⟨⟨u4, rfl, hu4⟩, g9⟩ := hh
  replace hc := g9.at hwf8 hc
  replace hct := g9.at hwf8 hct
  have g09 := g08.trans g9
  rw [← heq] at hu4
  refine ⟨u4, rfl, _, by (repeat (first | exact Reck.nil | (apply Reck.dropI; decide +kernel) | (apply Reck.keep; rfl) | (apply Reck.load; rfl; rfl; first | assumption | exact cload_of (by assumption) rfl) | (apply Reck.same; rfl) | (apply Reck.inc; rfl; rfl; rfl; omega))), ?_⟩
  repeat (first | refine zU (by decide +kernel) ?_ | refine zV (by decide +kernel) rfl rfl rfl rfl ?_ | refine zW (by decide +kernel) rfl rfl rfl rfl rfl (by first | assumption | exact cload_of (by assumption) rfl) ?_ | refine zX (by decide +kernel) rfl rfl rfl ?_)
  refine PG.nil ?_
  refine pd1.callG 12 rfl (by kernel_rfl) rfl rfl rfl rfl rfl fn_equal rfl rfl rfl (equal_same (Sl.gr hu3 hwf8 g9) hu4) fun h10 hwf10 g10 => ?_
  replace hc := g10.at hwf9 hc
  replace hct := g10.at hwf9 hct
  have g010 := g09.trans g10
  refine ⟨_, by (repeat (first | exact Reck.nil | (apply Reck.dropI; decide +kernel) | (apply Reck.keep; rfl) | (apply Reck.load; rfl; rfl; first | assumption | exact cload_of (by assumption) rfl) | (apply Reck.same; rfl) | (apply Reck.inc; rfl; rfl; rfl; omega))), ?_⟩
  repeat (first | refine zU (by decide +kernel) ?_ | refine zV (by decide +kernel) rfl rfl rfl rfl ?_ | refine zW (by decide +kernel) rfl rfl rfl rfl rfl (by first | assumption | exact cload_of (by assumption) rfl) ?_ | refine zX (by decide +kernel) rfl rfl rfl ?_)
  refine PG.nil ?_
  refine pd1.callR 19 rfl (by kernel_rfl) rfl rfl rfl rfl rfl fn_SBounds rfl rfl rfl ((SBoundsS_calls (hp.gr hwf g010) (htV.gr hwf g010) (Sl.gr ha hwf g010) hpl htl (by omega) (by omega)).monoW fun r h11 hwf11 hh => ?_)
  obtain ⟨⟨u5, rfl, hu5⟩, g11⟩ := hh
  replace hc := g11.at hwf10 hc
  replace hct := g11.at hwf10 hct
  have g011 := g010.trans g11
  refine ⟨u5, rfl, _, by (repeat (first | exact Reck.nil | (apply Reck.dropI; decide +kernel) | (apply Reck.keep; rfl) | (apply Reck.load; rfl; rfl; first | assumption | exact cload_of (by assumption) rfl) | (apply Reck.same; rfl) | (apply Reck.inc; rfl; rfl; rfl; omega))), ?_⟩
  repeat (first | refine zU (by decide +kernel) ?_ | refine zV (by decide +kernel) rfl rfl rfl rfl ?_ | refine zW (by decide +kernel) rfl rfl rfl rfl rfl (by first | assumption | exact cload_of (by assumption) rfl) ?_ | refine zX (by decide +kernel) rfl rfl rfl ?_)
  refine PG.nil ?_
  refine pd1.callR 25 rfl (by kernel_rfl) rfl rfl rfl rfl rfl fn_SBounds rfl rfl rfl ((SBoundsS_calls (hq.gr hwf g011) (htV.gr hwf g011) (Sl.gr hb hwf g011) hql htl (by omega) (by omega)).monoW fun r h12 hwf12 hh => ?_)
  obtain ⟨⟨u6, rfl, hu6⟩, g12⟩ := hh
  replace hc := g12.at hwf11 hc
  replace hct := g12.at hwf11 hct
  have g012 := g011.trans g12
  rw [eB] at hu6
  refine ⟨u6, rfl, _, by (repeat (first | exact Reck.nil | (apply Reck.dropI; decide +kernel) | (apply Reck.keep; rfl) | (apply Reck.load; rfl; rfl; first | assumption | exact cload_of (by assumption) rfl) | (apply Reck.same; rfl) | (apply Reck.inc; rfl; rfl; rfl; omega))), ?_⟩
  repeat (first | refine zU (by decide +kernel) ?_ | refine zV (by decide +kernel) rfl rfl rfl rfl ?_ | refine zW (by decide +kernel) rfl rfl rfl rfl rfl (by first | assumption | exact cload_of (by assumption) rfl) ?_ | refine zX (by decide +kernel) rfl rfl rfl ?_)
  refine PG.nil ?_
  refine pd1.callG 26 rfl (by kernel_rfl) rfl rfl rfl rfl rfl fn_equal rfl rfl rfl (equal_same (Sl.gr hu5 hwf11 g12) hu6) fun h13 hwf13 g13 => ?_
  replace hc := g13.at hwf12 hc
  replace hct := g13.at hwf12 hct
  have g013 := g012.trans g13
  refine ⟨_, by (repeat (first | exact Reck.nil | (apply Reck.dropI; decide +kernel) | (apply Reck.keep; rfl) | (apply Reck.load; rfl; rfl; first | assumption | exact cload_of (by assumption) rfl) | (apply Reck.same; rfl) | (apply Reck.inc; rfl; rfl; rfl; omega))), ?_⟩
  repeat (first | refine zU (by decide +kernel) ?_ | refine zV (by decide +kernel) rfl rfl rfl rfl ?_ | refine zW (by decide +kernel) rfl rfl rfl rfl rfl (by first | assumption | exact cload_of (by assumption) rfl) ?_ | refine zX (by decide +kernel) rfl rfl rfl ?_)
  refine PG.nil ?_
  refine pd1.callR 34 rfl (by kernel_rfl) rfl rfl rfl rfl rfl fn_SParts rfl rfl rfl ((SParts_calls (hp.gr hwf g013) (htV.gr hwf g013) (Sl.gr ha hwf g013) hpl htl (by omega) (by omega)).monoW fun r h14 hwf14 hh => ?_)
  obtain ⟨⟨u7, rfl, hu7⟩, g14⟩ := hh
  replace hc := g14.at hwf13 hc
  replace hct := g14.at hwf13 hct
  have g014 := g013.trans g14
  refine ⟨u7, rfl, _, by (repeat (first | exact Reck.nil | (apply Reck.dropI; decide +kernel) | (apply Reck.keep; rfl) | (apply Reck.load; rfl; rfl; first | assumption | exact cload_of (by assumption) rfl) | (apply Reck.same; rfl) | (apply Reck.inc; rfl; rfl; rfl; omega))), ?_⟩
  repeat (first | refine zU (by decide +kernel) ?_ | refine zV (by decide +kernel) rfl rfl rfl rfl ?_ | refine zW (by decide +kernel) rfl rfl rfl rfl rfl (by first | assumption | exact cload_of (by assumption) rfl) ?_ | refine zX (by decide +kernel) rfl rfl rfl ?_)
  refine PG.nil ?_
  refine pd1.callR 40 rfl (by kernel_rfl) rfl rfl rfl rfl rfl fn_SParts rfl rfl rfl ((SParts_calls (hq.gr hwf g014) (htV.gr hwf g014) (Sl.gr hb hwf g014) hql htl (by omega) (by omega)).monoW fun r h15 hwf15 hh => ?_)
  obtain ⟨⟨u8, rfl, hu8⟩, g15⟩ := hh
  replace hc := g15.at hwf14 hc
  replace hct := g15.at hwf14 hct
  rw [eP] at hu8
  refine ⟨u8, rfl, _, by (repeat (first | exact Reck.nil | (apply Reck.dropI; decide +kernel) | (apply Reck.keep; rfl) | (apply Reck.load; rfl; rfl; first | assumption | exact cload_of (by assumption) rfl) | (apply Reck.same; rfl) | (apply Reck.inc; rfl; rfl; rfl; omega))), ?_⟩
  repeat (first | refine zU (by decide +kernel) ?_ | refine zV (by decide +kernel) rfl rfl rfl rfl ?_ | refine zW (by decide +kernel) rfl rfl rfl rfl rfl (by first | assumption | exact cload_of (by assumption) rfl) ?_ | refine zX (by decide +kernel) rfl rfl rfl ?_)
  refine PG.nil ?_
  refine pd1.callG 41 rfl (by kernel_rfl) rfl rfl rfl rfl rfl fn_SameRanges rfl rfl rfl (SameRanges_calls (Sl.gr hu7 hwf14 g15) hu8) fun h16 hwf16 g16 => ?_
  replace hc := g16.at hwf15 hc
  replace hct := g16.at hwf15 hct
  refine ⟨_, by (repeat (first | exact Reck.nil | (apply Reck.dropI; decide +kernel) | (apply Reck.keep; rfl) | (apply Reck.load; rfl; rfl; first | assumption | exact cload_of (by assumption) rfl) | (apply Reck.same; rfl) | (apply Reck.inc; rfl; rfl; rfl; omega))), ?_⟩
  repeat (first | refine zU (by decide +kernel) ?_ | refine zV (by decide +kernel) rfl rfl rfl rfl ?_ | refine zW (by decide +kernel) rfl rfl rfl rfl rfl (by first | assumption | exact cload_of (by assumption) rfl) ?_ | refine zX (by decide +kernel) rfl rfl rfl ?_)
  refine PG.nil ?_
  refine pd1.callG 44 rfl (by kernel_rfl) rfl rfl rfl rfl rfl fn_alive rfl rfl rfl alive_calls fun h17 hwf17 g17 => ?_
  replace hc := g17.at hwf16 hc
  replace hct := g17.at hwf16 hct
  refine ⟨_, by (repeat (first | exact Reck.nil | (apply Reck.dropI; decide +kernel) | (apply Reck.keep; rfl) | (apply Reck.load; rfl; rfl; first | assumption | exact cload_of (by assumption) rfl) | (apply Reck.same; rfl) | (apply Reck.inc; rfl; rfl; rfl; omega))), ?_⟩
  repeat (first | refine zU (by decide +kernel) ?_ | refine zV (by decide +kernel) rfl rfl rfl rfl ?_ | refine zW (by decide +kernel) rfl rfl rfl rfl rfl (by first | assumption | exact cload_of (by assumption) rfl) ?_ | refine zX (by decide +kernel) rfl rfl rfl ?_)
  refine PG.nil ?_
  refine pd1.finA (by kernel_rfl) (by decide +kernel) ?_
  repeat (first | refine zA ?_ | refine zB ?_ | refine zC ?_ | refine zD ?_ | refine zE ?_ | refine zF ?_ | refine zG rfl ?_ | refine zH ?_ | refine zI ?_ | refine zJ ?_ | refine zK ?_ | refine zL ?_ | refine zM ?_ | refine zN ?_ | refine zO ?_)
  refine pleave.r rfl ?_
  rfl
end Go.Proofs.YtpcoponpfhnhlaaGreatDoor
set_option maxRecDepth 100000
set_option linter.unusedVariables false
set_option linter.unusedSimpArgs false
namespace Go.Proofs.YtpcoponpfhnhlaaGreatDoor
open Go.Cx
open Go.ChangeShapes Go.WideShapes Go.ChangeAt Go.RowKit
namespace of_SegmentAgrees
theorem own : ownKnob Tryz.prog.godebug = none := by kernel_rfl
theorem kids : Kids Tryz.prog (· < Tryz.prog.types.size) := kids_rows (by kernel_rfl) (by kernel_rfl)
theorem full : ∀ t e, t < Tryz.prog.types.size → Tryz.prog.underlying t = some (.slice e) → 0 < Tryz.prog.cellsOf e := slices_full_of Tryz.prog (by kernel_rfl)
theorem ptys : PropTys tab ks.int ks.str 64 22 23 25 :=
  ⟨rfl, ⟨_, rfl, rfl⟩, ⟨_, rfl, rfl⟩, rfl, rfl, rfl, rfl, rfl⟩
theorem tys : TabTys tab ks 31 29 22 27 :=
  ⟨⟨_, rfl, rfl⟩, ⟨_, rfl, rfl⟩, rfl, rfl, rfl, rfl, rfl, rfl, rfl, rfl⟩
def cellsD : DataW Unit → Array Value
  | .agg l => (l.flatMap fun x => match x with
    | .lit (.int k n) => [Value.int k n]
    | .agg m => m.map fun y => match y with
      | .lit (.int k n) => Value.int k n
      | _ => Value.nilFunc
    | _ => [Value.nilFunc]).toArray
  | _ => #[]
def layCells (d : DataW Unit) : Obj → Obj
  | .cells _ t frozen => .cells (cellsD d) t frozen
  | o => o
noncomputable def laidWorld (os : Os) : World :=
  { World.holding Tryz.prog os ⟨#[], #[], []⟩ with heap := (((((World.holding Tryz.prog os ⟨#[], #[], []⟩).heap.modify 1 (layCells Rows.laid_unicode_utf8_first)).modify 2 (layCells Rows.laid_unicode_utf8_acceptRanges)).modify 3 (layCells Rows.laid_internal_strconv_uint64pow10)).modify 4 (layCells Rows.laid_math_bits_deBruijn32tab)).modify 5 (layCells Rows.laid_math_bits_deBruijn64tab) }
def nilTwo : Value := .agg #[.slice none 0 0, .slice none 0 0, .slice none 0 0, .slice none 0 0, .slice none 0 0, .slice none 0 0]
def nilTwoD {H : Type} : DataW H := .agg [.agg [.nil, .nil], .agg [.nil, .nil], .nil, .nil]
def nilTable : Value := .agg #[.slice none 0 0, .slice none 0 0, .slice none 0 0, .slice none 0 0, .slice none 0 0, .slice none 0 0]
def nilTableD {H : Type} : DataW H := .agg [.nil, .nil, .agg [.nil, .nil], .agg [.nil, .nil]]
theorem typed : ∀ t ∈ Tryz.f4.params.toList, tyOk tab 6 t = true := by
  rw [Tryz.params4]
  intro t ht
  have : t ∈ ([42, 31] : List Nat) := ht
  simp only [List.mem_cons, List.not_mem_nil, or_false] at this
  rcases this with rfl | rfl
  · exact (show tyOk tab 6 42 = true by kernel_rfl)
  · exact (show tyOk tab 6 31 = true by kernel_rfl)
theorem contract (H : Type) (enc : TypeId × Value → H) (W : World) (base : Nat) (args : Array Value) (ds gs : List (DataW H)) (before : List MemPlace)
    (hval : ∀ (j : Nat) t v, Tryz.f4.params[j]? = some t → args[j]? = some v → Value.okWide Tryz.prog W .any base t v)
    (hW : DataW.Whole enc Tryz.prog Tryz.f4.params.toList Rows.segmentAgreesSpec.vars false W args.toList ds gs before) :
    Calls Tryz.prog 4 args W fun e W' => ∃ v, e = .returned v ∧ Rows.segmentAgreesSpec.post enc Tryz.prog Tryz.f4 false true false false W args v W' := by
  have hW' := hW
  obtain ⟨p, q, hA, hV, rfl, hfz, hnd⟩ := hW
  have hA1 : DataW.TrodAll enc Tryz.prog W 0 (fun _ => true) true [42, 31] args.toList ds p := by
    have := hA
    rw [Tryz.params4] at this
    exact this
  obtain ⟨v0, vs0, d0, ds0, p0, q0, hargs0, rfl, rfl, h0, r0⟩ := trodAll_cons hA1
  obtain ⟨v1, vs1, d1, ds1, p1, q1, hargs1, rfl, rfl, h1, r1⟩ := trodAll_cons r0
  obtain ⟨rfl, rfl, rfl⟩ := trodAll_nil r1
  rw [Tryz.params4] at hval
  have hargs : args = #[v0, v1] := by cases args; simp_all
  subst hargs
  refine (law_calls (f := 4) tab_ok typed hA fun h cvs hh => ?_).mono fun e W' ⟨he, hb⟩ => ⟨_, he, post_law hW' rfl rfl rfl Tryz.underlying4 kids full (by rw [Tryz.params4]; decide) hb⟩
  rw [Tryz.params4] at hh
  match cvs, hh with
  | [c0, c1], ⟨⟨e0, n0⟩, ⟨⟨e1, n1⟩, _⟩⟩ =>
    obtain ⟨tfs, htu, htf⟩ : ∃ fs : Array Field, tab.und 42 = some (.struct fs) ∧ fs.toList.map (·.type) = [25, 25, 26, 26] := ⟨_, rfl, rfl⟩
    obtain ⟨x, hx, hxl⟩ := two_arg (ints := 26) ptys rfl rfl htu htf e0
    obtain ⟨t, ht, htl⟩ := tab_of tys e1
    exact lawAgrees_calls hx ht hxl.1 hxl.2 htl
theorem laid_met (os : Os) : laidMet Tryz.prog Rows.segmentAgreesRow.laid ((laidWorld os).forCall (fun _ _ => 0) ⟨#[], #[nilTwo, nilTable], []⟩).memory :=
  laidMet_of_run' 8 (by kernel_rfl) (by kernel_rfl)
theorem reads (os : Os) {H : Type} (enc : TypeId × Value → H) : ∃ places, DataW.whole enc Tryz.prog ((laidWorld os).forCall (fun _ _ => 0) ⟨#[], #[nilTwo, nilTable], []⟩).memory Tryz.f4.params.toList Rows.segmentAgreesSpec.vars false (#[nilTwo, nilTable] : Array Value).toList 8 = some ([nilTwoD, nilTableD], [], places) :=
  ⟨[], by kernel_rfl⟩
theorem lifted (os : Os) (started : os.Started) (H : Type) (enc : TypeId × Value → H) (F : Stop.Interp) :
    ReturnsInHanded {} Tryz.checked os 4 .any ((OpenSpec.ofChange Rows.segmentAgreesSpec).preRow enc Tryz.prog Tryz.f4 Rows.segmentAgreesRow.domain false Rows.segmentAgreesRow.laid) (((OpenSpec.ofChange Rows.segmentAgreesSpec).at F).post enc Tryz.prog Tryz.f4 false true false false) := by
  obtain ⟨places, hx⟩ := reads os enc
  refine returnsInHanded_of_row (C := Tryz.checked) (s := OpenSpec.ofChange Rows.segmentAgreesSpec) own started (by kernel_rfl) Tryz.func4
    (witness_row_at (enc := enc) (C := Tryz.checked) false (laidWorld os) #[nilTwo, nilTable] rfl (by kernel_rfl) (by kernel_rfl) (by kernel_rfl)
      (OpenSpec.preRow_of_cond 8 hx (by kernel_rfl) (fun k hk => by cases hk) (by kernel_rfl) (laid_met os))) ?_
  intro W base args ds gs before hval hW _ _ _ hL _ _
  exact contract H enc W base args ds gs before hval hW
theorem said : Rows.SegmentAgreesSaid :=
  OpenClaim.holds_of_cond 4 Tryz.f4 rfl rfl rfl rfl rfl rfl rfl ⟨rfl, rfl, rfl, rfl, rfl⟩ rfl rfl rfl rfl rfl (by kernel_rfl) Tryz.func4 (by kernel_rfl)
    (of_decide_eq_true (by kernel_rfl)) (by unfold Func.isWrapper; first | (rw [if_pos (by decide +kernel)]; kernel_rfl) | (rw [if_neg (by decide +kernel)]; exact ⟨rfl, rfl⟩))
    (fun os started H enc _ F => by rw [OpenClaim.pre_eq_preRow]; exact lifted os started H enc F)
theorem plain (f : FuncId) (fn : Func) (hf : Tryz.pinned.checked.prog.funcNamed "unicodetext/unicodetextlaw30.SegmentAgrees" = some f) (hfn : Tryz.pinned.checked.prog.funcs[f]? = some fn) :
    true = Tryz.pinned.checked.prog.looks [] ∧ ∀ (j : Nat) t, fn.params[j]? = some t → Tryz.pinned.checked.prog.wantsStandIn t = false := by
  obtain rfl : f = 4 := Option.some.inj ((show Tryz.prog.funcNamed "unicodetext/unicodetextlaw30.SegmentAgrees" = some 4 by kernel_rfl).symm.trans hf) |>.symm
  obtain rfl : fn = Tryz.f4 := (Option.some.inj (Tryz.func4.symm.trans hfn)).symm
  refine ⟨by kernel_rfl, fun j t ht => ?_⟩
  have hm : t ∈ ([42, 31] : List Nat) := by
    have := Array.mem_of_getElem? ht
    rw [Tryz.params4] at this
    simpa using this
  simp only [List.mem_cons, List.not_mem_nil, or_false] at hm
  rcases hm with rfl | rfl
  · exact (show Tryz.prog.wantsStandIn 42 = false by kernel_rfl)
  · exact (show Tryz.prog.wantsStandIn 31 = false by kernel_rfl)
end of_SegmentAgrees
theorem segmentAgrees_card : Rows.SegmentAgreesCardSaid :=
  Claim7.holds_tied_plain_at .later [] _ _ _ _ of_SegmentAgrees.said (fun _ h => by cases h) (by kernel_rfl) (fun _ h => by cases h) segmentAgrees_row_tie rfl ⟨rfl, rfl⟩ (by kernel_rfl) rfl of_SegmentAgrees.plain (by kernel_rfl)
end Go.Proofs.YtpcoponpfhnhlaaGreatDoor