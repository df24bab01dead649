/- Walks through the functions that the statement reaches, and the statement. Conditions: none. -/
import Derived.Test.YtpcoponpfhnhlaaGreatDoorWalkD
import Derived.Test.YtpcoponpfhnhlaaGreatDoorWalkC
import Derived.Test.YtpcoponpfhnhlaaGreatDoorCxE
set_option maxRecDepth 100000
set_option linter.unusedVariables false
set_option linter.unusedSimpArgs false
namespace Go.Proofs.YtpcoponpfhnhlaaGreatDoor
open Go.Cx
variable {w : World} {h : CH}
theorem fn_SActions : tab.fn 14 = some Tryz.f14 := by kernel_rfl
theorem SActions_calls {vp vt vx : Value} {p : PropD} {t : TabD} {text : List Int} (hp : PropV tab ks.str 64 h vp p) (ht : TabV tab ks h vt t) (hxx : SlI tab ks.int h vx text) (hpl : TextsLt p.names) (htl : TextsLt t.classes) (hxl : text.length ≤ 1000) (hsl : p.spans.length < 1000000) :
    CalF (X w) 14 [vp, vt, vx] h fun r h' => (∃ u, r = .ret u ∧ SlI tab ks.int h' u (ActionsR t (clsD p t text))) ∧ Gr h h' := by
  refine CalF.wf fun hwf => ?_
  have hpV := hp
  have htV := ht
  obtain ⟨c, s, rfl, oc, os, hpn, hps⟩ := hp
  obtain ⟨c', a, x, y, x', y', rfl, ho, hcl, hac, hx, hy, hx', hy'⟩ := ht
  clear hac hx hy hx' hy' hpn hps hcl
  simp only [Bool.and_eq_true] at ho
  refine CalF.intro fn_SActions rfl (Nat.le_of_ble_eq_true rfl) ?_
  repeat (first | refine zA ?_ | refine zB ?_ | refine zC ?_ | refine zD ?_ | refine zE ?_ | refine zF ?_ | refine zG rfl ?_ | refine zH ?_ | refine zI ?_ | refine zJ ?_ | refine zK ?_ | refine zL ?_ | refine zM ?_ | refine zN ?_ | refine zO ?_)
  refine pops.box (cs := [c, s]) rfl rfl rfl rfl (by simp [oc, os]) rfl rfl hwf fun b h1 hb hwf1 g1 hc => ?_
  refine pops.box (cs := [c', a, x, y, x', y']) rfl rfl rfl rfl (by simp [ho]) rfl rfl hwf1 fun bt h2 hbt hwf2 g2 hct => ?_
  have g02 := g1.trans g2
  replace hc := g2.at hwf1 hc
  refine zP rfl rfl rfl rfl rfl ?_
  refine pops.nil ?_
  repeat (first | refine zA ?_ | refine zB ?_ | refine zC ?_ | refine zD ?_ | refine zE ?_ | refine zF ?_ | refine zG rfl ?_ | refine zH ?_ | refine zI ?_ | refine zJ ?_ | refine zK ?_ | refine zL ?_ | refine zM ?_ | refine zN ?_ | refine zO ?_)
  refine PG.start _ rfl rfl ?_
  repeat (first | refine zU (by decide +kernel) ?_ | refine zV (by decide +kernel) rfl rfl rfl rfl ?_ | refine zW (by decide +kernel) rfl rfl rfl rfl rfl (by first | assumption | exact cload_of (by assumption) rfl) ?_ | refine zX (by decide +kernel) rfl rfl rfl ?_)
  refine PG.nil ?_
  refine pd1.callR 4 rfl (by kernel_rfl) rfl rfl rfl rfl rfl fn_SClasses rfl rfl rfl ((SClasses_calls (hpV.gr hwf g02) (htV.gr hwf g02) (Sl.gr hxx hwf g02) hpl htl hxl hsl).monoW fun r h3 hwf3 hh => ?_)
  obtain ⟨⟨u, rfl, hu⟩, g3⟩ := hh
  replace hc := g3.at hwf2 hc
  replace hct := g3.at hwf2 hct
  refine ⟨u, rfl, _, by (repeat (first | exact Reck.nil | (apply Reck.dropI; decide +kernel) | (apply Reck.keep; rfl) | (apply Reck.load; rfl; rfl; first | assumption | exact cload_of (by assumption) rfl) | (apply Reck.same; rfl) | (apply Reck.inc; rfl; rfl; rfl; omega))), ?_⟩
  repeat (first | refine zU (by decide +kernel) ?_ | refine zV (by decide +kernel) rfl rfl rfl rfl ?_ | refine zW (by decide +kernel) rfl rfl rfl rfl rfl (by first | assumption | exact cload_of (by assumption) rfl) ?_ | refine zX (by decide +kernel) rfl rfl rfl ?_)
  refine PG.nil ?_
  refine pd1.callR 5 rfl (by kernel_rfl) rfl rfl rfl rfl rfl fn_Actions rfl rfl rfl ((Actions_calls (htV.gr hwf (g02.trans g3)) hu htl (Nat.le_trans cls_le hxl)).monoW fun r h4 hwf4 hh => ?_)
  obtain ⟨⟨u2, rfl, hu2⟩, g4⟩ := hh
  replace hc := g4.at hwf3 hc
  replace hct := g4.at hwf3 hct
  refine ⟨u2, rfl, _, by (repeat (first | exact Reck.nil | (apply Reck.dropI; decide +kernel) | (apply Reck.keep; rfl) | (apply Reck.load; rfl; rfl; first | assumption | exact cload_of (by assumption) rfl) | (apply Reck.same; rfl) | (apply Reck.inc; rfl; rfl; rfl; omega))), ?_⟩
  repeat (first | refine zU (by decide +kernel) ?_ | refine zV (by decide +kernel) rfl rfl rfl rfl ?_ | refine zW (by decide +kernel) rfl rfl rfl rfl rfl (by first | assumption | exact cload_of (by assumption) rfl) ?_ | refine zX (by decide +kernel) rfl rfl rfl ?_)
  refine PG.nil ?_
  refine pd1.fin (by kernel_rfl) (by kernel_rfl) ?_
  repeat (first | refine zA ?_ | refine zB ?_ | refine zC ?_ | refine zD ?_ | refine zE ?_ | refine zF ?_ | refine zG rfl ?_ | refine zH ?_ | refine zI ?_ | refine zJ ?_ | refine zK ?_ | refine zL ?_ | refine zM ?_ | refine zN ?_ | refine zO ?_)
  refine pleave.r rfl ?_
  exact ⟨⟨u2, rfl, hu2⟩, (g02.trans g3).trans g4⟩
theorem fn_SBounds : tab.fn 18 = some Tryz.f18 := by kernel_rfl
theorem SBounds_calls {vp vt vx : Value} {p : PropD} {t : TabD} {text : List Int} (hp : PropV tab ks.str 64 h vp p) (ht : TabV tab ks h vt t) (hxx : SlI tab ks.int h vx text) (hpl : TextsLt p.names) (htl : TextsLt t.classes) (hxl : text.length ≤ 1000) (hsl : p.spans.length < 1000000) :
    CalF (X w) 18 [vp, vt, vx] h fun r h' => (∃ u b', r = .ret u ∧ h.n ≤ b' ∧ Own h' u b' ((boundsD p t text).map (Value.int .i64))) ∧ Gr h h' := by
  refine CalF.wf fun hwf => ?_
  have hpV := hp
  have htV := ht
  obtain ⟨c, s, rfl, oc, os, hpn, hps⟩ := hp
  obtain ⟨c', a, x, y, x', y', rfl, ho, hcl, hac, hx, hy, hx', hy'⟩ := ht
  clear hac hx hy hx' hy' hpn hps hcl
  simp only [Bool.and_eq_true] at ho
  refine CalF.intro fn_SBounds rfl (Nat.le_of_ble_eq_true rfl) ?_
  repeat (first | refine zA ?_ | refine zB ?_ | refine zC ?_ | refine zD ?_ | refine zE ?_ | refine zF ?_ | refine zG rfl ?_ | refine zH ?_ | refine zI ?_ | refine zJ ?_ | refine zK ?_ | refine zL ?_ | refine zM ?_ | refine zN ?_ | refine zO ?_)
  refine pops.box (cs := [c, s]) rfl rfl rfl rfl (by simp [oc, os]) rfl rfl hwf fun b h1 hb hwf1 g1 hc => ?_
  refine pops.box (cs := [c', a, x, y, x', y']) rfl rfl rfl rfl (by simp [ho]) rfl rfl hwf1 fun bt h2 hbt hwf2 g2 hct => ?_
  have g02 := g1.trans g2
  replace hc := g2.at hwf1 hc
  refine zP rfl rfl rfl rfl rfl ?_
  refine pops.nil ?_
  repeat (first | refine zA ?_ | refine zB ?_ | refine zC ?_ | refine zD ?_ | refine zE ?_ | refine zF ?_ | refine zG rfl ?_ | refine zH ?_ | refine zI ?_ | refine zJ ?_ | refine zK ?_ | refine zL ?_ | refine zM ?_ | refine zN ?_ | refine zO ?_)
  repeat (first | refine zT rfl rfl rfl rfl rfl rfl (cbin_inc (by omega)) ?_ | refine zP rfl rfl rfl rfl rfl ?_ | refine zQ rfl rfl rfl ?_ | refine zR rfl rfl rfl rfl rfl (by first | assumption | exact cload_of (by assumption) rfl) ?_ | refine zS rfl rfl rfl rfl rfl rfl rfl rfl (by first | exact SlA.len (by assumption) rfl | exact Sl.map (by assumption) rfl | exact Sl.len (by assumption) rfl) ?_)
  refine pops.nil ?_
  repeat (first | refine zA ?_ | refine zB ?_ | refine zC ?_ | refine zD ?_ | refine zE ?_ | refine zF ?_ | refine zG rfl ?_ | refine zH ?_ | refine zI ?_ | refine zJ ?_ | refine zK ?_ | refine zL ?_ | refine zM ?_ | refine zN ?_ | refine zO ?_)
  refine zR rfl rfl rfl rfl rfl (cload_of hc rfl) ?_
  refine zR rfl rfl rfl rfl rfl (cload_of hct rfl) ?_
  refine zP rfl rfl rfl rfl rfl ?_
  refine pops.callV rfl rfl rfl rfl rfl fn_SActions rfl rfl ((SActions_calls (hpV.gr hwf g02) (htV.gr hwf g02) (Sl.gr hxx hwf g02) hpl htl hxl hsl).monoW fun r h3 hwf3 hh => ?_)
  obtain ⟨⟨u, rfl, hu⟩, g3⟩ := hh
  refine ⟨_, rfl, ?_⟩
  have g03 := g02.trans g3
  have hal := acts_le (p := p) (t := t) (text := text)
  unfold boundsD endsD
  generalize ActionsR t (clsD p t text) = A at hu hal ⊢
  refine zS rfl rfl rfl rfl rfl rfl rfl rfl (SlI.len hu rfl) ?_
  refine zP rfl rfl rfl rfl rfl ?_
  refine pops.nil ?_
  repeat (first | refine zA ?_ | refine zB ?_ | refine zC ?_ | refine zD ?_ | refine zE ?_ | refine zF ?_ | refine zG rfl ?_ | refine zH ?_ | refine zI ?_ | refine zJ ?_ | refine zK ?_ | refine zL ?_ | refine zM ?_ | refine zN ?_ | refine zO ?_)
  refine Loops.ind 6 (fun s : Nat × Value => [(7, s.2), (13, u), (14, .int .i64 (A.length : Nat)), (15, .int .i64 (s.1 : Nat))])
    (fun s h' => s.1 ≤ A.length ∧ Gr h3 h' ∧ ∃ b', h3.n ≤ b' ∧ Own h' s.2 b' ((endsTo A s.1).map (Value.int .i64))) (fun s => A.length - s.1) (0, .slice none 0 0) (by decide) ⟨rfl, rfl, rfl, rfl, trivial⟩ ⟨Nat.zero_le _, Gr.refl _, h3.n, Nat.le_refl _, .inl ⟨rfl, rfl⟩⟩ ?_
  rintro ⟨i, vo⟩ z h' hwf' ⟨hi, g, b', hb', hown⟩
  simp only at hi hown
  replace hu := Sl.gr hu hwf3 g
  repeat (first | refine zA ?_ | refine zB ?_ | refine zC ?_ | refine zD ?_ | refine zE ?_ | refine zF ?_ | refine zG rfl ?_ | refine zH ?_ | refine zI ?_ | refine zJ ?_ | refine zK ?_ | refine zL ?_ | refine zM ?_ | refine zN ?_ | refine zO ?_)
  repeat (first | refine zT rfl rfl rfl rfl rfl rfl (cbin_inc (by omega)) ?_ | refine zP rfl rfl rfl rfl rfl ?_ | refine zQ rfl rfl rfl ?_ | refine zR rfl rfl rfl rfl rfl (by first | assumption | exact cload_of (by assumption) rfl) ?_ | refine zS rfl rfl rfl rfl rfl rfl rfl rfl (by first | exact SlA.len (by assumption) rfl | exact Sl.map (by assumption) rfl | exact Sl.len (by assumption) rfl) ?_)
  refine pops.nil ?_
  repeat (first | refine zA ?_ | refine zB ?_ | refine zC ?_ | refine zD ?_ | refine zE ?_ | refine zF ?_ | refine zG rfl ?_ | refine zH ?_ | refine zI ?_ | refine zJ ?_ | refine zK ?_ | refine zL ?_ | refine zM ?_ | refine zN ?_ | refine zO ?_)
  refine pcond.d (p := (i : Int) < (A.length : Nat)) rfl (fun hlt => ?_) (fun hge => ?_)
  · have hlt : i < A.length := by omega
    obtain ⟨k, hk⟩ : ∃ x, A[i]? = some x := ⟨_, List.getElem?_eq_getElem hlt⟩
    repeat (first | refine zA ?_ | refine zB ?_ | refine zC ?_ | refine zD ?_ | refine zE ?_ | refine zF ?_ | refine zG rfl ?_ | refine zH ?_ | refine zI ?_ | refine zJ ?_ | refine zK ?_ | refine zL ?_ | refine zM ?_ | refine zN ?_ | refine zO ?_)
    refine zP rfl rfl rfl rfl rfl ?_
    refine pops.atI (f := Value.int .i64) rfl rfl rfl rfl rfl rfl rfl hu hk fun q hq => ?_
    refine zR rfl rfl rfl rfl rfl (by first | assumption | exact cload_of (by assumption) rfl) ?_
    repeat (first | refine zT rfl rfl rfl rfl rfl rfl (cbin_inc (by omega)) ?_ | refine zP rfl rfl rfl rfl rfl ?_ | refine zQ rfl rfl rfl ?_ | refine zR rfl rfl rfl rfl rfl (by first | assumption | exact cload_of (by assumption) rfl) ?_ | refine zS rfl rfl rfl rfl rfl rfl rfl rfl (by first | exact SlA.len (by assumption) rfl | exact Sl.map (by assumption) rfl | exact Sl.len (by assumption) rfl) ?_)
    refine pops.nil ?_
    repeat (first | refine zA ?_ | refine zB ?_ | refine zC ?_ | refine zD ?_ | refine zE ?_ | refine zF ?_ | refine zG rfl ?_ | refine zH ?_ | refine zI ?_ | refine zJ ?_ | refine zK ?_ | refine zL ?_ | refine zM ?_ | refine zN ?_ | refine zO ?_)
    refine zP rfl rfl rfl rfl rfl ?_
    refine zZ rfl rfl rfl rfl rfl (fun q1 => ?_) (fun q1 => ?_)
    · have q1 : k ≠ 1 := by simpa using q1
      have hel := endsTo_len A i
      refine pops.nil ?_
      repeat (first | refine zA ?_ | refine zB ?_ | refine zC ?_ | refine zD ?_ | refine zE ?_ | refine zF ?_ | refine zG rfl ?_ | refine zH ?_ | refine zI ?_ | refine zJ ?_ | refine zK ?_ | refine zL ?_ | refine zM ?_ | refine zN ?_ | refine zO ?_)
      refine pcond.t rfl ?_
      repeat (first | refine zA ?_ | refine zB ?_ | refine zC ?_ | refine zD ?_ | refine zE ?_ | refine zF ?_ | refine zG rfl ?_ | refine zH ?_ | refine zI ?_ | refine zJ ?_ | refine zK ?_ | refine zL ?_ | refine zM ?_ | refine zN ?_ | refine zO ?_)
      refine zP rfl rfl rfl rfl rfl ?_
      refine zP rfl rfl rfl rfl rfl ?_
      refine pops.buildSlice (cs := [.int .i64 (i : Int)]) rfl rfl rfl rfl rfl hwf' fun b1 h6 hb1 hwf6 g6 hc6 => ?_
      refine pops.append1 rfl rfl rfl rfl rfl rfl rfl rfl rfl rfl rfl rfl rfl rfl rfl rfl rfl hwf6 (hown.gr hwf' g6) rfl hc6 (by rw [List.length_map]; omega) fun v' b2 h7 hwf7 ch hb2 hown7 => ?_
      have g7 : Gr h3 h7 := (g.trans g6).chg hb' ch
      repeat (first | refine zT rfl rfl rfl rfl rfl rfl (cbin_inc (by omega)) ?_ | refine zP rfl rfl rfl rfl rfl ?_ | refine zQ rfl rfl rfl ?_ | refine zR rfl rfl rfl rfl rfl (by first | assumption | exact cload_of (by assumption) rfl) ?_ | refine zS rfl rfl rfl rfl rfl rfl rfl rfl (by first | exact SlA.len (by assumption) rfl | exact Sl.map (by assumption) rfl | exact Sl.len (by assumption) rfl) ?_)
      refine pops.nil ?_
      repeat (first | refine zA ?_ | refine zB ?_ | refine zC ?_ | refine zD ?_ | refine zE ?_ | refine zF ?_ | refine zG rfl ?_ | refine zH ?_ | refine zI ?_ | refine zJ ?_ | refine zK ?_ | refine zL ?_ | refine zM ?_ | refine zN ?_ | refine zO ?_)
      repeat (first | refine zT rfl rfl rfl rfl rfl rfl (cbin_inc (by omega)) ?_ | refine zP rfl rfl rfl rfl rfl ?_ | refine zQ rfl rfl rfl ?_ | refine zR rfl rfl rfl rfl rfl (by first | assumption | exact cload_of (by assumption) rfl) ?_ | refine zS rfl rfl rfl rfl rfl rfl rfl rfl (by first | exact SlA.len (by assumption) rfl | exact Sl.map (by assumption) rfl | exact Sl.len (by assumption) rfl) ?_)
      refine pops.nil ?_
      refine .n ⟨_, (i + 1, v'), rfl, ⟨rfl, rfl, rfl, rfl, trivial⟩, (by show A.length - (i + 1) < A.length - i; omega), (by show i + 1 ≤ A.length; omega), g7, b2, Nat.le_trans (g.trans g6).n hb2, ?_⟩
      show Own h7 v' b2 ((endsTo A (i + 1)).map _)
      rw [endsTo_yes hk q1, List.map_append]
      exact hown7
    · have q1 : k = 1 := by simpa using q1
      refine pops.nil ?_
      repeat (first | refine zA ?_ | refine zB ?_ | refine zC ?_ | refine zD ?_ | refine zE ?_ | refine zF ?_ | refine zG rfl ?_ | refine zH ?_ | refine zI ?_ | refine zJ ?_ | refine zK ?_ | refine zL ?_ | refine zM ?_ | refine zN ?_ | refine zO ?_)
      refine pcond.f rfl ?_
      repeat (first | refine zA ?_ | refine zB ?_ | refine zC ?_ | refine zD ?_ | refine zE ?_ | refine zF ?_ | refine zG rfl ?_ | refine zH ?_ | refine zI ?_ | refine zJ ?_ | refine zK ?_ | refine zL ?_ | refine zM ?_ | refine zN ?_ | refine zO ?_)
      repeat (first | refine zT rfl rfl rfl rfl rfl rfl (cbin_inc (by omega)) ?_ | refine zP rfl rfl rfl rfl rfl ?_ | refine zQ rfl rfl rfl ?_ | refine zR rfl rfl rfl rfl rfl (by first | assumption | exact cload_of (by assumption) rfl) ?_ | refine zS rfl rfl rfl rfl rfl rfl rfl rfl (by first | exact SlA.len (by assumption) rfl | exact Sl.map (by assumption) rfl | exact Sl.len (by assumption) rfl) ?_)
      refine pops.nil ?_
      refine .n ⟨_, (i + 1, vo), rfl, ⟨rfl, rfl, rfl, rfl, trivial⟩, (by show A.length - (i + 1) < A.length - i; omega), (by show i + 1 ≤ A.length; omega), g, b', hb', ?_⟩
      show Own h' vo b' ((endsTo A (i + 1)).map _)
      rw [endsTo_no hk q1]
      exact hown
  · repeat (first | refine zA ?_ | refine zB ?_ | refine zC ?_ | refine zD ?_ | refine zE ?_ | refine zF ?_ | refine zG rfl ?_ | refine zH ?_ | refine zI ?_ | refine zJ ?_ | refine zK ?_ | refine zL ?_ | refine zM ?_ | refine zN ?_ | refine zO ?_)
    have hi' : i = A.length := by omega
    subst hi'
    repeat (first | refine zT rfl rfl rfl rfl rfl rfl (cbin_inc (by omega)) ?_ | refine zP rfl rfl rfl rfl rfl ?_ | refine zQ rfl rfl rfl ?_ | refine zR rfl rfl rfl rfl rfl (by first | assumption | exact cload_of (by assumption) rfl) ?_ | refine zS rfl rfl rfl rfl rfl rfl rfl rfl (by first | exact SlA.len (by assumption) rfl | exact Sl.map (by assumption) rfl | exact Sl.len (by assumption) rfl) ?_)
    refine pops.nil ?_
    repeat (first | refine zA ?_ | refine zB ?_ | refine zC ?_ | refine zD ?_ | refine zE ?_ | refine zF ?_ | refine zG rfl ?_ | refine zH ?_ | refine zI ?_ | refine zJ ?_ | refine zK ?_ | refine zL ?_ | refine zM ?_ | refine zN ?_ | refine zO ?_)
    refine pleave.r rfl ?_
    exact ⟨⟨vo, b', rfl, Nat.le_trans g03.n hb', hown⟩, g03.trans g⟩
theorem fn_Ends30 : tab.fn 25 = some Tryz.f25 := by kernel_rfl
theorem Ends30_calls {v : Value} {A : List Int} (hu : SlI tab ks.int h v A) (hal : A.length ≤ 2000) : CalF (X w) 25 [v] h fun r h' => (∃ u, r = .ret u ∧ SlI tab ks.int h' u (endsD A)) ∧ Gr h h' := by
  refine CalF.wf fun hwf => ?_
  refine CalF.intro fn_Ends30 rfl (Nat.le_of_ble_eq_true rfl) ?_
  repeat (first | refine zA ?_ | refine zB ?_ | refine zC ?_ | refine zD ?_ | refine zE ?_ | refine zF ?_ | refine zG rfl ?_ | refine zH ?_ | refine zI ?_ | refine zJ ?_ | refine zK ?_ | refine zL ?_ | refine zM ?_ | refine zN ?_ | refine zO ?_)
  repeat (first | refine zT rfl rfl rfl rfl rfl rfl (cbin_inc (by omega)) ?_ | refine zP rfl rfl rfl rfl rfl ?_ | refine zQ rfl rfl rfl ?_ | refine zR rfl rfl rfl rfl rfl (by first | assumption | exact cload_of (by assumption) rfl) ?_ | refine zS rfl rfl rfl rfl rfl rfl rfl rfl (by first | exact SlA.len (by assumption) rfl | exact Sl.map (by assumption) rfl | exact Sl.len (by assumption) rfl) ?_)
  refine pops.nil ?_
  repeat (first | refine zA ?_ | refine zB ?_ | refine zC ?_ | refine zD ?_ | refine zE ?_ | refine zF ?_ | refine zG rfl ?_ | refine zH ?_ | refine zI ?_ | refine zJ ?_ | refine zK ?_ | refine zL ?_ | refine zM ?_ | refine zN ?_ | refine zO ?_)
  repeat (first | refine zT rfl rfl rfl rfl rfl rfl (cbin_inc (by omega)) ?_ | refine zP rfl rfl rfl rfl rfl ?_ | refine zQ rfl rfl rfl ?_ | refine zR rfl rfl rfl rfl rfl (by first | assumption | exact cload_of (by assumption) rfl) ?_ | refine zS rfl rfl rfl rfl rfl rfl rfl rfl (by first | exact SlA.len (by assumption) rfl | exact Sl.map (by assumption) rfl | exact Sl.len (by assumption) rfl) ?_)
  refine pops.nil ?_
  repeat (first | refine zA ?_ | refine zB ?_ | refine zC ?_ | refine zD ?_ | refine zE ?_ | refine zF ?_ | refine zG rfl ?_ | refine zH ?_ | refine zI ?_ | refine zJ ?_ | refine zK ?_ | refine zL ?_ | refine zM ?_ | refine zN ?_ | refine zO ?_)
  repeat (first | refine zT rfl rfl rfl rfl rfl rfl (cbin_inc (by omega)) ?_ | refine zP rfl rfl rfl rfl rfl ?_ | refine zQ rfl rfl rfl ?_ | refine zR rfl rfl rfl rfl rfl (by first | assumption | exact cload_of (by assumption) rfl) ?_ | refine zS rfl rfl rfl rfl rfl rfl rfl rfl (by first | exact SlA.len (by assumption) rfl | exact Sl.map (by assumption) rfl | exact Sl.len (by assumption) rfl) ?_)
  refine pops.nil ?_
  repeat (first | refine zA ?_ | refine zB ?_ | refine zC ?_ | refine zD ?_ | refine zE ?_ | refine zF ?_ | refine zG rfl ?_ | refine zH ?_ | refine zI ?_ | refine zJ ?_ | refine zK ?_ | refine zL ?_ | refine zM ?_ | refine zN ?_ | refine zO ?_)
  refine Loops.ind 6 (fun s : Nat × Value => [(0, v), (3, s.2), (4, .int .i64 (s.1 : Nat))])
    (fun s h' => s.1 ≤ A.length ∧ Gr h h' ∧ ∃ b', h.n ≤ b' ∧ Own h' s.2 b' ((endsTo A s.1).map (Value.int .i64))) (fun s => A.length - s.1) (0, .slice none 0 0) (by decide) ⟨rfl, rfl, rfl, trivial⟩ ⟨Nat.zero_le _, Gr.refl _, h.n, Nat.le_refl _, .inl ⟨rfl, rfl⟩⟩ ?_
  rintro ⟨i, vo⟩ z h' hwf' ⟨hi, g, b', hb', hown⟩
  simp only at hi hown
  replace hu := Sl.gr hu hwf g
  repeat (first | refine zA ?_ | refine zB ?_ | refine zC ?_ | refine zD ?_ | refine zE ?_ | refine zF ?_ | refine zG rfl ?_ | refine zH ?_ | refine zI ?_ | refine zJ ?_ | refine zK ?_ | refine zL ?_ | refine zM ?_ | refine zN ?_ | refine zO ?_)
  repeat (first | refine zT rfl rfl rfl rfl rfl rfl (cbin_inc (by omega)) ?_ | refine zP rfl rfl rfl rfl rfl ?_ | refine zQ rfl rfl rfl ?_ | refine zR rfl rfl rfl rfl rfl (by first | assumption | exact cload_of (by assumption) rfl) ?_ | refine zS rfl rfl rfl rfl rfl rfl rfl rfl (by first | exact SlA.len (by assumption) rfl | exact Sl.map (by assumption) rfl | exact Sl.len (by assumption) rfl) ?_)
  refine pops.nil ?_
  repeat (first | refine zA ?_ | refine zB ?_ | refine zC ?_ | refine zD ?_ | refine zE ?_ | refine zF ?_ | refine zG rfl ?_ | refine zH ?_ | refine zI ?_ | refine zJ ?_ | refine zK ?_ | refine zL ?_ | refine zM ?_ | refine zN ?_ | refine zO ?_)
  refine pcond.d (p := (i : Int) < (A.length : Nat)) rfl (fun hlt => ?_) (fun hge => ?_)
  · have hlt : i < A.length := by omega
    obtain ⟨k, hk⟩ : ∃ x, A[i]? = some x := ⟨_, List.getElem?_eq_getElem hlt⟩
    repeat (first | refine zA ?_ | refine zB ?_ | refine zC ?_ | refine zD ?_ | refine zE ?_ | refine zF ?_ | refine zG rfl ?_ | refine zH ?_ | refine zI ?_ | refine zJ ?_ | refine zK ?_ | refine zL ?_ | refine zM ?_ | refine zN ?_ | refine zO ?_)
    refine zP rfl rfl rfl rfl rfl ?_
    refine zP rfl rfl rfl rfl rfl ?_
    refine pops.atI (f := Value.int .i64) rfl rfl rfl rfl rfl rfl rfl hu hk fun q hq => ?_
    refine zR rfl rfl rfl rfl rfl (by first | assumption | exact cload_of (by assumption) rfl) ?_
    refine zZ rfl rfl rfl rfl rfl (fun q1 => ?_) (fun q1 => ?_)
    · have q1 : k ≠ 1 := by simpa using q1
      have hel := endsTo_len A i
      refine pops.nil ?_
      repeat (first | refine zA ?_ | refine zB ?_ | refine zC ?_ | refine zD ?_ | refine zE ?_ | refine zF ?_ | refine zG rfl ?_ | refine zH ?_ | refine zI ?_ | refine zJ ?_ | refine zK ?_ | refine zL ?_ | refine zM ?_ | refine zN ?_ | refine zO ?_)
      refine pcond.t rfl ?_
      repeat (first | refine zA ?_ | refine zB ?_ | refine zC ?_ | refine zD ?_ | refine zE ?_ | refine zF ?_ | refine zG rfl ?_ | refine zH ?_ | refine zI ?_ | refine zJ ?_ | refine zK ?_ | refine zL ?_ | refine zM ?_ | refine zN ?_ | refine zO ?_)
      refine zP rfl rfl rfl rfl rfl ?_
      refine zP rfl rfl rfl rfl rfl ?_
      refine pops.buildSlice (cs := [.int .i64 (i : Int)]) rfl rfl rfl rfl rfl hwf' fun b1 h6 hb1 hwf6 g6 hc6 => ?_
      refine pops.append1 rfl rfl rfl rfl rfl rfl rfl rfl rfl rfl rfl rfl rfl rfl rfl rfl rfl hwf6 (hown.gr hwf' g6) rfl hc6 (by rw [List.length_map]; omega) fun v' b2 h7 hwf7 ch hb2 hown7 => ?_
      have g7 : Gr h h7 := (g.trans g6).chg hb' ch
      repeat (first | refine zT rfl rfl rfl rfl rfl rfl (cbin_inc (by omega)) ?_ | refine zP rfl rfl rfl rfl rfl ?_ | refine zQ rfl rfl rfl ?_ | refine zR rfl rfl rfl rfl rfl (by first | assumption | exact cload_of (by assumption) rfl) ?_ | refine zS rfl rfl rfl rfl rfl rfl rfl rfl (by first | exact SlA.len (by assumption) rfl | exact Sl.map (by assumption) rfl | exact Sl.len (by assumption) rfl) ?_)
      refine pops.nil ?_
      repeat (first | refine zA ?_ | refine zB ?_ | refine zC ?_ | refine zD ?_ | refine zE ?_ | refine zF ?_ | refine zG rfl ?_ | refine zH ?_ | refine zI ?_ | refine zJ ?_ | refine zK ?_ | refine zL ?_ | refine zM ?_ | refine zN ?_ | refine zO ?_)
      repeat (first | refine zT rfl rfl rfl rfl rfl rfl (cbin_inc (by omega)) ?_ | refine zP rfl rfl rfl rfl rfl ?_ | refine zQ rfl rfl rfl ?_ | refine zR rfl rfl rfl rfl rfl (by first | assumption | exact cload_of (by assumption) rfl) ?_ | refine zS rfl rfl rfl rfl rfl rfl rfl rfl (by first | exact SlA.len (by assumption) rfl | exact Sl.map (by assumption) rfl | exact Sl.len (by assumption) rfl) ?_)
      refine pops.nil ?_
      refine .n ⟨_, (i + 1, v'), rfl, ⟨rfl, rfl, rfl, trivial⟩, (by show A.length - (i + 1) < A.length - i; omega), (by show i + 1 ≤ A.length; omega), g7, b2, Nat.le_trans (g.trans g6).n hb2, ?_⟩
      show Own h7 v' b2 ((endsTo A (i + 1)).map _)
      rw [endsTo_yes hk q1, List.map_append]
      exact hown7
    · have q1 : k = 1 := by simpa using q1
      refine pops.nil ?_
      repeat (first | refine zA ?_ | refine zB ?_ | refine zC ?_ | refine zD ?_ | refine zE ?_ | refine zF ?_ | refine zG rfl ?_ | refine zH ?_ | refine zI ?_ | refine zJ ?_ | refine zK ?_ | refine zL ?_ | refine zM ?_ | refine zN ?_ | refine zO ?_)
      refine pcond.f rfl ?_
      repeat (first | refine zA ?_ | refine zB ?_ | refine zC ?_ | refine zD ?_ | refine zE ?_ | refine zF ?_ | refine zG rfl ?_ | refine zH ?_ | refine zI ?_ | refine zJ ?_ | refine zK ?_ | refine zL ?_ | refine zM ?_ | refine zN ?_ | refine zO ?_)
      repeat (first | refine zT rfl rfl rfl rfl rfl rfl (cbin_inc (by omega)) ?_ | refine zP rfl rfl rfl rfl rfl ?_ | refine zQ rfl rfl rfl ?_ | refine zR rfl rfl rfl rfl rfl (by first | assumption | exact cload_of (by assumption) rfl) ?_ | refine zS rfl rfl rfl rfl rfl rfl rfl rfl (by first | exact SlA.len (by assumption) rfl | exact Sl.map (by assumption) rfl | exact Sl.len (by assumption) rfl) ?_)
      refine pops.nil ?_
      refine .n ⟨_, (i + 1, vo), rfl, ⟨rfl, rfl, rfl, trivial⟩, (by show A.length - (i + 1) < A.length - i; omega), (by show i + 1 ≤ A.length; omega), g, b', hb', ?_⟩
      show Own h' vo b' ((endsTo A (i + 1)).map _)
      rw [endsTo_no hk q1]
      exact hown
  · repeat (first | refine zA ?_ | refine zB ?_ | refine zC ?_ | refine zD ?_ | refine zE ?_ | refine zF ?_ | refine zG rfl ?_ | refine zH ?_ | refine zI ?_ | refine zJ ?_ | refine zK ?_ | refine zL ?_ | refine zM ?_ | refine zN ?_ | refine zO ?_)
    have hi' : i = A.length := by omega
    subst hi'
    repeat (first | refine zT rfl rfl rfl rfl rfl rfl (cbin_inc (by omega)) ?_ | refine zP rfl rfl rfl rfl rfl ?_ | refine zQ rfl rfl rfl ?_ | refine zR rfl rfl rfl rfl rfl (by first | assumption | exact cload_of (by assumption) rfl) ?_ | refine zS rfl rfl rfl rfl rfl rfl rfl rfl (by first | exact SlA.len (by assumption) rfl | exact Sl.map (by assumption) rfl | exact Sl.len (by assumption) rfl) ?_)
    refine pops.nil ?_
    repeat (first | refine zA ?_ | refine zB ?_ | refine zC ?_ | refine zD ?_ | refine zE ?_ | refine zF ?_ | refine zG rfl ?_ | refine zH ?_ | refine zI ?_ | refine zJ ?_ | refine zK ?_ | refine zL ?_ | refine zM ?_ | refine zN ?_ | refine zO ?_)
    refine pleave.r rfl ?_
    refine ⟨⟨vo, rfl, ?_⟩, g⟩
    have hel := endsTo_len A A.length
    exact hown.sl rfl rfl rfl (by rw [List.length_map]; omega)
end Go.Proofs.YtpcoponpfhnhlaaGreatDoor
set_option maxRecDepth 100000
set_option linter.unusedVariables false
set_option linter.unusedSimpArgs false
namespace Go.Proofs.YtpcoponpfhnhlaaGreatDoor
open Go.Cx
variable {w : World} {h : CH}
theorem fn_partsF : tab.fn 56 = some Tryz.f56 := by kernel_rfl
theorem partsF_calls {c s c' a x y x' y' vx : Value} {p : PropD} {t : TabD} {text : List Int} {yl bt bp bx : Nat}
    (hct : h.get bt = some (.cells [c', a, x, y, x', y'] false false)) (hc : h.get bp = some (.cells [c, s] false false)) (hcx : h.get bx = some (.cells [vx] false false))
    (hp : PropV tab ks.str 64 h (.agg #[c, s]) p) (ht : TabV tab ks h (.agg #[c', a, x, y, x', y']) t) (hxx : SlI tab ks.int h vx text) (hpl : TextsLt p.names) (htl : TextsLt t.classes) (hxl : text.length ≤ 1000) (hsl : p.spans.length < 1000000)
    (J : Nat → List RangeD → CH → Prop) (hI : ∀ h' bL, h'.wf → Gr h h' → h.n ≤ bL → J bL [] h')
    (hr : ∀ bL out (r : RangeD) h', h'.wf → J bL out h' → bL < h'.n → out.length ≤ 2000 → ∃ rl : Loop, h'.get yl = some (.loop rl) ∧ 1 = rl.params.toList.length ∧ Rnd (X w) yl rl.fn rl.tmps.toList.length (setArgs rl.tmps.toList.length (argsTree rl.tmps.toList 0 .nil) (rl.params.toList.zip [rangeV r])) rl.assign rl.body h' fun u h'' => u = .bool true ∧ J bL (out ++ [r]) h'' ∧ h''.get bL = h'.get bL ∧ h'.n ≤ h''.n) :
    CalF (X w) 56 [.func (.yield yl) #[] #[], .pointer (some ⟨bt, 0, none⟩), .pointer (some ⟨bp, 0, none⟩), .pointer (some ⟨bx, 0, none⟩)] h fun r h' => (∃ u, r = .ret u) ∧ ∃ bL, J bL (partsD p t text) h' ∧ h'.wf := by
  refine CalF.wf fun hwf => ?_
  obtain ⟨av, cv, rfl⟩ := Sl.formM hxx
  refine CalF.intro fn_partsF rfl (Nat.le_of_ble_eq_true rfl) ?_
  repeat (first | refine zA ?_ | refine zB ?_ | refine zC ?_ | refine zD ?_ | refine zE ?_ | refine zF ?_ | refine zG rfl ?_ | refine zH ?_ | refine zI ?_ | refine zJ ?_ | refine zK ?_ | refine zL ?_ | refine zM ?_ | refine zN ?_ | refine zO ?_)
  refine zR rfl rfl rfl rfl rfl (cload_of hct rfl) ?_
  refine pops.callG rfl rfl rfl rfl rfl fn_valid rfl rfl rfl (valid_calls ht htl) fun h3 hwf3 g3 => ?_
  cases hV : tt (ValidP t) with
  | false =>
    repeat (first | refine zT rfl rfl rfl rfl rfl rfl (cbin_inc (by omega)) ?_ | refine zP rfl rfl rfl rfl rfl ?_ | refine zQ rfl rfl rfl ?_ | refine zR rfl rfl rfl rfl rfl (by first | assumption | exact cload_of (by assumption) rfl) ?_ | refine zS rfl rfl rfl rfl rfl rfl rfl rfl (by first | exact SlA.len (by assumption) rfl | exact Sl.map (by assumption) rfl | exact Sl.len (by assumption) rfl) ?_)
    refine pops.nil ?_
    repeat (first | refine zA ?_ | refine zB ?_ | refine zC ?_ | refine zD ?_ | refine zE ?_ | refine zF ?_ | refine zG rfl ?_ | refine zH ?_ | refine zI ?_ | refine zJ ?_ | refine zK ?_ | refine zL ?_ | refine zM ?_ | refine zN ?_ | refine zO ?_)
    refine pcond.t rfl ?_
    repeat (first | refine zA ?_ | refine zB ?_ | refine zC ?_ | refine zD ?_ | refine zE ?_ | refine zF ?_ | refine zG rfl ?_ | refine zH ?_ | refine zI ?_ | refine zJ ?_ | refine zK ?_ | refine zL ?_ | refine zM ?_ | refine zN ?_ | refine zO ?_)
    refine pleave.n rfl ?_
    refine ⟨⟨_, rfl⟩, h.n, ?_, hwf3⟩
    unfold partsD
    rw [hV]
    exact hI h3 h.n hwf3 g3 (Nat.le_refl _)
  | true =>
  have hV := tt_iff.1 hV
  have hc3 := g3.at hwf hc
  have hct3 := g3.at hwf hct
  have hcx3 := g3.at hwf hcx
  have hxx3 := Sl.gr hxx hwf g3
  repeat (first | refine zT rfl rfl rfl rfl rfl rfl (cbin_inc (by omega)) ?_ | refine zP rfl rfl rfl rfl rfl ?_ | refine zQ rfl rfl rfl ?_ | refine zR rfl rfl rfl rfl rfl (by first | assumption | exact cload_of (by assumption) rfl) ?_ | refine zS rfl rfl rfl rfl rfl rfl rfl rfl (by first | exact SlA.len (by assumption) rfl | exact Sl.map (by assumption) rfl | exact Sl.len (by assumption) rfl) ?_)
  refine pops.nil ?_
  repeat (first | refine zA ?_ | refine zB ?_ | refine zC ?_ | refine zD ?_ | refine zE ?_ | refine zF ?_ | refine zG rfl ?_ | refine zH ?_ | refine zI ?_ | refine zJ ?_ | refine zK ?_ | refine zL ?_ | refine zM ?_ | refine zN ?_ | refine zO ?_)
  refine pcond.f rfl ?_
  repeat (first | refine zA ?_ | refine zB ?_ | refine zC ?_ | refine zD ?_ | refine zE ?_ | refine zF ?_ | refine zG rfl ?_ | refine zH ?_ | refine zI ?_ | refine zJ ?_ | refine zK ?_ | refine zL ?_ | refine zM ?_ | refine zN ?_ | refine zO ?_)
  repeat (first | refine zT rfl rfl rfl rfl rfl rfl (cbin_inc (by omega)) ?_ | refine zP rfl rfl rfl rfl rfl ?_ | refine zQ rfl rfl rfl ?_ | refine zR rfl rfl rfl rfl rfl (by first | assumption | exact cload_of (by assumption) rfl) ?_ | refine zS rfl rfl rfl rfl rfl rfl rfl rfl (by first | exact SlA.len (by assumption) rfl | exact Sl.map (by assumption) rfl | exact Sl.len (by assumption) rfl) ?_)
  refine pops.nil ?_
  repeat (first | refine zA ?_ | refine zB ?_ | refine zC ?_ | refine zD ?_ | refine zE ?_ | refine zF ?_ | refine zG rfl ?_ | refine zH ?_ | refine zI ?_ | refine zJ ?_ | refine zK ?_ | refine zL ?_ | refine zM ?_ | refine zN ?_ | refine zO ?_)
  refine PG.start _ rfl rfl ?_
  refine zW (by decide +kernel) rfl rfl rfl rfl rfl (by first | assumption | exact cload_of (by assumption) rfl) ?_
  refine zW (by decide +kernel) rfl rfl rfl rfl rfl (by first | assumption | exact cload_of (by assumption) rfl) ?_
  refine zW (by decide +kernel) rfl rfl rfl rfl rfl (by first | assumption | exact cload_of (by assumption) rfl) ?_
  repeat refine zU (by decide +kernel) ?_
  refine zW (by decide +kernel) rfl rfl rfl rfl rfl (by first | assumption | exact cload_of (by assumption) rfl) ?_
  refine zV (by decide +kernel) rfl rfl rfl rfl ?_
  repeat (first | refine zU (by decide +kernel) ?_ | refine zV (by decide +kernel) rfl rfl rfl rfl ?_ | refine zW (by decide +kernel) rfl rfl rfl rfl rfl (by first | assumption | exact cload_of (by assumption) rfl) ?_ | refine zX (by decide +kernel) rfl rfl rfl ?_)
  refine PG.nil ?_
  refine pd1.two 3 6 rfl rfl (by kernel_rfl) ?_ ?_
  · refine pdx.callR 3 rfl rfl rfl rfl rfl fn_SBounds rfl rfl rfl ((SBounds_calls (hp.gr hwf g3) (ht.gr hwf g3) hxx3 hpl htl hxl hsl).monoW fun r h5 hwf5 hh => ?_)
    obtain ⟨⟨ub, bb, rfl, hbb, hown⟩, g5⟩ := hh
    have hc3 := g5.at hwf3 hc3
    have hct3 := g5.at hwf3 hct3
    have hcx3 := g5.at hwf3 hcx3
    have hlen5 := SlI.len (Sl.gr hxx3 hwf3 g5) (ts := 26) rfl
    refine ⟨_, rfl, _, by (repeat (first | exact Reck.nil | (apply Reck.dropI; decide +kernel) | (apply Reck.keep; rfl) | (apply Reck.load; rfl; rfl; first | assumption | exact cload_of (by assumption) rfl) | (apply Reck.same; rfl) | (apply Reck.inc; rfl; rfl; rfl; omega))), ?_⟩
    repeat (first | refine zU (by decide +kernel) ?_ | refine zV (by decide +kernel) rfl rfl rfl rfl ?_ | refine zW (by decide +kernel) rfl rfl rfl rfl rfl (by first | assumption | exact cload_of (by assumption) rfl) ?_ | refine zX (by decide +kernel) rfl rfl rfl ?_)
    refine PG.nil ?_
    refine pd1.buildSlice (cs := [.int .i64 (text.length : Int)]) 6 rfl (by kernel_rfl) rfl rfl rfl rfl rfl hwf5 fun b1 h6 hb1 hwf6 g6 hc6 => ?_
    have hc3 := g6.at hwf5 hc3
    have hct3 := g6.at hwf5 hct3
    have hcx3 := g6.at hwf5 hcx3
    refine ⟨_, by (repeat (first | exact Reck.nil | (apply Reck.dropI; decide +kernel) | (apply Reck.keep; rfl) | (apply Reck.load; rfl; rfl; first | assumption | exact cload_of (by assumption) rfl) | (apply Reck.same; rfl) | (apply Reck.inc; rfl; rfl; rfl; omega))), ?_⟩
    repeat (first | refine zU (by decide +kernel) ?_ | refine zV (by decide +kernel) rfl rfl rfl rfl ?_ | refine zW (by decide +kernel) rfl rfl rfl rfl rfl (by first | assumption | exact cload_of (by assumption) rfl) ?_ | refine zX (by decide +kernel) rfl rfl rfl ?_)
    refine PG.nil ?_
    refine pd1.append1 7 rfl (by kernel_rfl) rfl rfl rfl rfl rfl rfl rfl rfl rfl rfl rfl rfl rfl rfl rfl rfl rfl hwf6 (hown.gr hwf5 g6) rfl hc6 (by rw [List.length_map]; have := bounds_le (p := p) (t := t) (text := text); omega) fun vL bL h8 hwf8 ch hbL hown8 => ?_
    have hbh : h.n ≤ bb := Nat.le_trans g3.n hbb
    have g08 : Gr h h8 := ((g3.trans g5).trans g6).chg hbh ch
    have hbL : h.n ≤ bL := Nat.le_trans ((g3.trans g5).trans g6).n hbL
    refine ⟨_, by (repeat (first | exact Reck.nil | (apply Reck.dropI; decide +kernel) | (apply Reck.keep; rfl) | (apply Reck.load; rfl; rfl; first | assumption | exact cload_of (by assumption) rfl) | (apply Reck.same; rfl) | (apply Reck.inc; rfl; rfl; rfl; omega))), ?_⟩
    repeat refine zU (by decide +kernel) ?_
    rcases hown8 with ⟨he, _⟩ | ⟨cL, rfl, hL, hcc⟩
    · simp at he
    repeat (first | refine zU (by decide +kernel) ?_ | refine zV (by decide +kernel) rfl rfl rfl rfl ?_ | refine zW (by decide +kernel) rfl rfl rfl rfl rfl (by first | assumption | exact cload_of (by assumption) rfl) ?_ | refine zX (by decide +kernel) rfl rfl rfl ?_)
    refine PG.nil ?_
    refine pd1.fin (by kernel_rfl) (by kernel_rfl) ?_
    have hbL8 := CH.lt hwf8 hL
    have hLe : (boundsD p t text).map (Value.int .i64) ++ [.int .i64 (text.length : Int)] = (cutsD p t text).map (Value.int .i64) := by unfold cutsD; rw [List.map_append]; rfl
    rw [hLe] at hL
    have hLl : ((boundsD p t text).map (Value.int .i64) ++ [Value.int .i64 (text.length : Int)]).length = (cutsD p t text).length := by rw [hLe, List.length_map]
    rw [hLl]
    have hasc := cuts_asc p t text
    have hclen : (cutsD p t text).length ≤ 2000 := by have := cuts_length (p := p) (t := t) (text := text); have := bounds_le (p := p) (t := t) (text := text); omega
    have hpd : partsD p t text = betw 0 (cutsD p t text) := by unfold partsD; rw [tt_t hV]; rfl
    rw [hpd]
    generalize cutsD p t text = C at hL hasc hclen ⊢
    have hJ0 := hI h8 bL hwf8 g08 hbL
    repeat (first | refine zA ?_ | refine zB ?_ | refine zC ?_ | refine zD ?_ | refine zE ?_ | refine zF ?_ | refine zG rfl ?_ | refine zH ?_ | refine zI ?_ | refine zJ ?_ | refine zK ?_ | refine zL ?_ | refine zM ?_ | refine zN ?_ | refine zO ?_)
    refine Loops.ind 6 (fun s : Nat × Int => [(0, .func (.yield yl) #[] #[]), (5, .int .i64 s.2), (18, .slice (some ⟨bL, 0, none⟩) C.length cL), (19, .int .i64 (C.length : Nat)), (20, .int .i64 (s.1 : Nat))])
      (fun s h' => s.1 ≤ C.length ∧ bL < h'.n ∧ h'.get bL = some (.cells (C.map (Value.int .i64)) false false) ∧ Asc s.2 (C.drop s.1) ∧ ∃ out, J bL out h' ∧ betw 0 C = out ++ betw s.2 (C.drop s.1)) (fun s => C.length - s.1) (0, 0) (by decide) ⟨rfl, rfl, rfl, rfl, rfl, trivial⟩ ⟨Nat.zero_le _, hbL8, hL, hasc, [], hJ0, rfl⟩ ?_
    clear hJ0 hbL8 hasc hL
    rintro ⟨i, u⟩ z h' hwf' ⟨hi, hbn, hL, hasc, out, hJ, hout⟩
    simp only at hi hasc hout
    repeat (first | refine zA ?_ | refine zB ?_ | refine zC ?_ | refine zD ?_ | refine zE ?_ | refine zF ?_ | refine zG rfl ?_ | refine zH ?_ | refine zI ?_ | refine zJ ?_ | refine zK ?_ | refine zL ?_ | refine zM ?_ | refine zN ?_ | refine zO ?_)
    repeat (first | refine zT rfl rfl rfl rfl rfl rfl (cbin_inc (by omega)) ?_ | refine zP rfl rfl rfl rfl rfl ?_ | refine zQ rfl rfl rfl ?_ | refine zR rfl rfl rfl rfl rfl (by first | assumption | exact cload_of (by assumption) rfl) ?_ | refine zS rfl rfl rfl rfl rfl rfl rfl rfl (by first | exact SlA.len (by assumption) rfl | exact Sl.map (by assumption) rfl | exact Sl.len (by assumption) rfl) ?_)
    refine pops.nil ?_
    repeat (first | refine zA ?_ | refine zB ?_ | refine zC ?_ | refine zD ?_ | refine zE ?_ | refine zF ?_ | refine zG rfl ?_ | refine zH ?_ | refine zI ?_ | refine zJ ?_ | refine zK ?_ | refine zL ?_ | refine zM ?_ | refine zN ?_ | refine zO ?_)
    refine pcond.d (p := (i : Int) < (C.length : Nat)) rfl (fun hlt => ?_) (fun hge => ?_)
    · have hlt : i < C.length := by omega
      obtain ⟨k, hk⟩ : ∃ x, C[i]? = some x := ⟨_, List.getElem?_eq_getElem hlt⟩
      obtain ⟨hle, hasc', hbt⟩ := betw_step hasc hk
      have hSL : SlI tab ks.int h' (.slice (some ⟨bL, 0, none⟩) C.length cL) C := Sl.one hL rfl rfl rfl (by rw [List.length_map]; omega) (by rw [List.length_map])
      repeat (first | refine zA ?_ | refine zB ?_ | refine zC ?_ | refine zD ?_ | refine zE ?_ | refine zF ?_ | refine zG rfl ?_ | refine zH ?_ | refine zI ?_ | refine zJ ?_ | refine zK ?_ | refine zL ?_ | refine zM ?_ | refine zN ?_ | refine zO ?_)
      refine pops.atI (f := Value.int .i64) rfl rfl rfl rfl rfl rfl rfl hSL hk fun q hq => ?_
      refine zR rfl rfl rfl rfl rfl (by first | assumption | exact cload_of (by assumption) rfl) ?_
      repeat (first | refine zT rfl rfl rfl rfl rfl rfl (cbin_inc (by omega)) ?_ | refine zP rfl rfl rfl rfl rfl ?_ | refine zQ rfl rfl rfl ?_ | refine zR rfl rfl rfl rfl rfl (by first | assumption | exact cload_of (by assumption) rfl) ?_ | refine zS rfl rfl rfl rfl rfl rfl rfl rfl (by first | exact SlA.len (by assumption) rfl | exact Sl.map (by assumption) rfl | exact Sl.len (by assumption) rfl) ?_)
      refine pops.nil ?_
      repeat (first | refine zA ?_ | refine zB ?_ | refine zC ?_ | refine zD ?_ | refine zE ?_ | refine zF ?_ | refine zG rfl ?_ | refine zH ?_ | refine zI ?_ | refine zJ ?_ | refine zK ?_ | refine zL ?_ | refine zM ?_ | refine zN ?_ | refine zO ?_)
      refine zP rfl rfl rfl rfl rfl ?_
      refine zP rfl rfl rfl rfl rfl ?_
      refine zZ rfl rfl rfl rfl rfl (fun q1 => ?_) (fun q1 => ?_)
      · have q1 := of_decide_eq_true q1
        rw [if_pos (by omega)] at hbt
        have hol : out.length ≤ 2000 := by
          have h9 := congrArg List.length hout
          rw [List.length_append] at h9
          have h10 := betw_len C 0
          omega
        obtain ⟨rl, hr1, hr2, hr3⟩ := hr bL out (u, k) h' hwf' hJ hbn hol
        refine zP rfl rfl rfl rfl rfl ?_
        refine zP rfl rfl rfl rfl rfl ?_
        refine zP rfl rfl rfl rfl rfl ?_
        refine zP rfl rfl rfl rfl rfl ?_
        refine zP rfl rfl rfl rfl rfl ?_
        refine pops.yield rfl rfl rfl rfl rfl rfl rfl hr1 hr2 (hr3.monoW fun uu h2 hwf2 hh => ?_)
        obtain ⟨rfl, hJ2, hL2, hn2⟩ := hh
        repeat (first | refine zT rfl rfl rfl rfl rfl rfl (cbin_inc (by omega)) ?_ | refine zP rfl rfl rfl rfl rfl ?_ | refine zQ rfl rfl rfl ?_ | refine zR rfl rfl rfl rfl rfl (by first | assumption | exact cload_of (by assumption) rfl) ?_ | refine zS rfl rfl rfl rfl rfl rfl rfl rfl (by first | exact SlA.len (by assumption) rfl | exact Sl.map (by assumption) rfl | exact Sl.len (by assumption) rfl) ?_)
        refine pops.nil ?_
        repeat (first | refine zA ?_ | refine zB ?_ | refine zC ?_ | refine zD ?_ | refine zE ?_ | refine zF ?_ | refine zG rfl ?_ | refine zH ?_ | refine zI ?_ | refine zJ ?_ | refine zK ?_ | refine zL ?_ | refine zM ?_ | refine zN ?_ | refine zO ?_)
        refine pcond.f rfl ?_
        repeat (first | refine zA ?_ | refine zB ?_ | refine zC ?_ | refine zD ?_ | refine zE ?_ | refine zF ?_ | refine zG rfl ?_ | refine zH ?_ | refine zI ?_ | refine zJ ?_ | refine zK ?_ | refine zL ?_ | refine zM ?_ | refine zN ?_ | refine zO ?_)
        repeat (first | refine zT rfl rfl rfl rfl rfl rfl (cbin_inc (by omega)) ?_ | refine zP rfl rfl rfl rfl rfl ?_ | refine zQ rfl rfl rfl ?_ | refine zR rfl rfl rfl rfl rfl (by first | assumption | exact cload_of (by assumption) rfl) ?_ | refine zS rfl rfl rfl rfl rfl rfl rfl rfl (by first | exact SlA.len (by assumption) rfl | exact Sl.map (by assumption) rfl | exact Sl.len (by assumption) rfl) ?_)
        refine pops.nil ?_
        repeat (first | refine zA ?_ | refine zB ?_ | refine zC ?_ | refine zD ?_ | refine zE ?_ | refine zF ?_ | refine zG rfl ?_ | refine zH ?_ | refine zI ?_ | refine zJ ?_ | refine zK ?_ | refine zL ?_ | refine zM ?_ | refine zN ?_ | refine zO ?_)
        repeat (first | refine zT rfl rfl rfl rfl rfl rfl (cbin_inc (by omega)) ?_ | refine zP rfl rfl rfl rfl rfl ?_ | refine zQ rfl rfl rfl ?_ | refine zR rfl rfl rfl rfl rfl (by first | assumption | exact cload_of (by assumption) rfl) ?_ | refine zS rfl rfl rfl rfl rfl rfl rfl rfl (by first | exact SlA.len (by assumption) rfl | exact Sl.map (by assumption) rfl | exact Sl.len (by assumption) rfl) ?_)
        refine pops.nil ?_
        refine .n ⟨_, (i + 1, k), rfl, ⟨rfl, rfl, rfl, rfl, rfl, trivial⟩, (by show C.length - (i + 1) < C.length - i; omega), (by show i + 1 ≤ C.length; omega), by omega, by rw [hL2]; exact hL, hasc', _, hJ2, ?_⟩
        rw [hout, hbt, List.append_assoc]
      · have q1 := of_decide_eq_false q1
        rw [if_neg (by omega)] at hbt
        repeat (first | refine zT rfl rfl rfl rfl rfl rfl (cbin_inc (by omega)) ?_ | refine zP rfl rfl rfl rfl rfl ?_ | refine zQ rfl rfl rfl ?_ | refine zR rfl rfl rfl rfl rfl (by first | assumption | exact cload_of (by assumption) rfl) ?_ | refine zS rfl rfl rfl rfl rfl rfl rfl rfl (by first | exact SlA.len (by assumption) rfl | exact Sl.map (by assumption) rfl | exact Sl.len (by assumption) rfl) ?_)
        refine pops.nil ?_
        repeat (first | refine zA ?_ | refine zB ?_ | refine zC ?_ | refine zD ?_ | refine zE ?_ | refine zF ?_ | refine zG rfl ?_ | refine zH ?_ | refine zI ?_ | refine zJ ?_ | refine zK ?_ | refine zL ?_ | refine zM ?_ | refine zN ?_ | refine zO ?_)
        refine pcond.f rfl ?_
        repeat (first | refine zA ?_ | refine zB ?_ | refine zC ?_ | refine zD ?_ | refine zE ?_ | refine zF ?_ | refine zG rfl ?_ | refine zH ?_ | refine zI ?_ | refine zJ ?_ | refine zK ?_ | refine zL ?_ | refine zM ?_ | refine zN ?_ | refine zO ?_)
        repeat (first | refine zT rfl rfl rfl rfl rfl rfl (cbin_inc (by omega)) ?_ | refine zP rfl rfl rfl rfl rfl ?_ | refine zQ rfl rfl rfl ?_ | refine zR rfl rfl rfl rfl rfl (by first | assumption | exact cload_of (by assumption) rfl) ?_ | refine zS rfl rfl rfl rfl rfl rfl rfl rfl (by first | exact SlA.len (by assumption) rfl | exact Sl.map (by assumption) rfl | exact Sl.len (by assumption) rfl) ?_)
        refine pops.nil ?_
        repeat (first | refine zA ?_ | refine zB ?_ | refine zC ?_ | refine zD ?_ | refine zE ?_ | refine zF ?_ | refine zG rfl ?_ | refine zH ?_ | refine zI ?_ | refine zJ ?_ | refine zK ?_ | refine zL ?_ | refine zM ?_ | refine zN ?_ | refine zO ?_)
        repeat (first | refine zT rfl rfl rfl rfl rfl rfl (cbin_inc (by omega)) ?_ | refine zP rfl rfl rfl rfl rfl ?_ | refine zQ rfl rfl rfl ?_ | refine zR rfl rfl rfl rfl rfl (by first | assumption | exact cload_of (by assumption) rfl) ?_ | refine zS rfl rfl rfl rfl rfl rfl rfl rfl (by first | exact SlA.len (by assumption) rfl | exact Sl.map (by assumption) rfl | exact Sl.len (by assumption) rfl) ?_)
        refine pops.nil ?_
        refine .n ⟨_, (i + 1, k), rfl, ⟨rfl, rfl, rfl, rfl, rfl, trivial⟩, (by show C.length - (i + 1) < C.length - i; omega), (by show i + 1 ≤ C.length; omega), hbn, hL, hasc', _, hJ, ?_⟩
        rw [hout, hbt, List.nil_append]
    · repeat (first | refine zA ?_ | refine zB ?_ | refine zC ?_ | refine zD ?_ | refine zE ?_ | refine zF ?_ | refine zG rfl ?_ | refine zH ?_ | refine zI ?_ | refine zJ ?_ | refine zK ?_ | refine zL ?_ | refine zM ?_ | refine zN ?_ | refine zO ?_)
      have hi' : i = C.length := by omega
      subst hi'
      refine pleave.n rfl ?_
      rw [List.drop_length] at hout
      refine ⟨⟨_, rfl⟩, bL, ?_, hwf'⟩
      rw [hout]
      show J bL (out ++ []) h'
      rw [List.append_nil]
      exact hJ
  · refine pdx.buildSlice (cs := [.int .i64 (text.length : Int)]) 6 rfl rfl rfl rfl rfl hwf3 fun b1 h6 hb1 hwf6 g6 hc6 => ?_
    have hc3 := g6.at hwf3 hc3
    have hct3 := g6.at hwf3 hct3
    have hcx3 := g6.at hwf3 hcx3
    refine ⟨_, by (repeat (first | exact Reck.nil | (apply Reck.dropI; decide +kernel) | (apply Reck.keep; rfl) | (apply Reck.load; rfl; rfl; first | assumption | exact cload_of (by assumption) rfl) | (apply Reck.same; rfl) | (apply Reck.inc; rfl; rfl; rfl; omega))), ?_⟩
    repeat (first | refine zU (by decide +kernel) ?_ | refine zV (by decide +kernel) rfl rfl rfl rfl ?_ | refine zW (by decide +kernel) rfl rfl rfl rfl rfl (by first | assumption | exact cload_of (by assumption) rfl) ?_ | refine zX (by decide +kernel) rfl rfl rfl ?_)
    refine PG.nil ?_
    refine pd1.callR 3 rfl (by kernel_rfl) rfl rfl rfl rfl rfl fn_SBounds rfl rfl rfl ((SBounds_calls (hp.gr hwf (g3.trans g6)) (ht.gr hwf (g3.trans g6)) (Sl.gr hxx hwf (g3.trans g6)) hpl htl hxl hsl).monoW fun r h5 hwf5 hh => ?_)
    obtain ⟨⟨ub, bb, rfl, hbb, hown⟩, g5⟩ := hh
    have hc3 := g5.at hwf6 hc3
    have hct3 := g5.at hwf6 hct3
    have hcx3 := g5.at hwf6 hcx3
    refine ⟨_, rfl, _, by (repeat (first | exact Reck.nil | (apply Reck.dropI; decide +kernel) | (apply Reck.keep; rfl) | (apply Reck.load; rfl; rfl; first | assumption | exact cload_of (by assumption) rfl) | (apply Reck.same; rfl) | (apply Reck.inc; rfl; rfl; rfl; omega))), ?_⟩
    repeat (first | refine zU (by decide +kernel) ?_ | refine zV (by decide +kernel) rfl rfl rfl rfl ?_ | refine zW (by decide +kernel) rfl rfl rfl rfl rfl (by first | assumption | exact cload_of (by assumption) rfl) ?_ | refine zX (by decide +kernel) rfl rfl rfl ?_)
    refine PG.nil ?_
    refine pd1.append1 7 rfl (by kernel_rfl) rfl rfl rfl rfl rfl rfl rfl rfl rfl rfl rfl rfl rfl rfl rfl rfl rfl hwf5 hown rfl (g5.at hwf6 hc6) (by rw [List.length_map]; have := bounds_le (p := p) (t := t) (text := text); omega) fun vL bL h8 hwf8 ch hbL hown8 => ?_
    have hbh : h.n ≤ bb := Nat.le_trans (g3.trans g6).n hbb
    have g08 : Gr h h8 := ((g3.trans g6).trans g5).chg hbh ch
    have hbL : h.n ≤ bL := Nat.le_trans ((g3.trans g6).trans g5).n hbL
    refine ⟨_, by (repeat (first | exact Reck.nil | (apply Reck.dropI; decide +kernel) | (apply Reck.keep; rfl) | (apply Reck.load; rfl; rfl; first | assumption | exact cload_of (by assumption) rfl) | (apply Reck.same; rfl) | (apply Reck.inc; rfl; rfl; rfl; omega))), ?_⟩
    repeat refine zU (by decide +kernel) ?_
    rcases hown8 with ⟨he, _⟩ | ⟨cL, rfl, hL, hcc⟩
    · simp at he
    repeat (first | refine zU (by decide +kernel) ?_ | refine zV (by decide +kernel) rfl rfl rfl rfl ?_ | refine zW (by decide +kernel) rfl rfl rfl rfl rfl (by first | assumption | exact cload_of (by assumption) rfl) ?_ | refine zX (by decide +kernel) rfl rfl rfl ?_)
    refine PG.nil ?_
    refine pd1.fin (by kernel_rfl) (by kernel_rfl) ?_
    have hbL8 := CH.lt hwf8 hL
    have hLe : (boundsD p t text).map (Value.int .i64) ++ [.int .i64 (text.length : Int)] = (cutsD p t text).map (Value.int .i64) := by unfold cutsD; rw [List.map_append]; rfl
    rw [hLe] at hL
    have hLl : ((boundsD p t text).map (Value.int .i64) ++ [Value.int .i64 (text.length : Int)]).length = (cutsD p t text).length := by rw [hLe, List.length_map]
    rw [hLl]
    have hasc := cuts_asc p t text
    have hclen : (cutsD p t text).length ≤ 2000 := by have := cuts_length (p := p) (t := t) (text := text); have := bounds_le (p := p) (t := t) (text := text); omega
    have hpd : partsD p t text = betw 0 (cutsD p t text) := by unfold partsD; rw [tt_t hV]; rfl
    rw [hpd]
    generalize cutsD p t text = C at hL hasc hclen ⊢
    have hJ0 := hI h8 bL hwf8 g08 hbL
    repeat (first | refine zA ?_ | refine zB ?_ | refine zC ?_ | refine zD ?_ | refine zE ?_ | refine zF ?_ | refine zG rfl ?_ | refine zH ?_ | refine zI ?_ | refine zJ ?_ | refine zK ?_ | refine zL ?_ | refine zM ?_ | refine zN ?_ | refine zO ?_)
    refine Loops.ind 6 (fun s : Nat × Int => [(0, .func (.yield yl) #[] #[]), (5, .int .i64 s.2), (18, .slice (some ⟨bL, 0, none⟩) C.length cL), (19, .int .i64 (C.length : Nat)), (20, .int .i64 (s.1 : Nat))])
      (fun s h' => s.1 ≤ C.length ∧ bL < h'.n ∧ h'.get bL = some (.cells (C.map (Value.int .i64)) false false) ∧ Asc s.2 (C.drop s.1) ∧ ∃ out, J bL out h' ∧ betw 0 C = out ++ betw s.2 (C.drop s.1)) (fun s => C.length - s.1) (0, 0) (by decide) ⟨rfl, rfl, rfl, rfl, rfl, trivial⟩ ⟨Nat.zero_le _, hbL8, hL, hasc, [], hJ0, rfl⟩ ?_
    clear hJ0 hbL8 hasc hL
    rintro ⟨i, u⟩ z h' hwf' ⟨hi, hbn, hL, hasc, out, hJ, hout⟩
    simp only at hi hasc hout
    repeat (first | refine zA ?_ | refine zB ?_ | refine zC ?_ | refine zD ?_ | refine zE ?_ | refine zF ?_ | refine zG rfl ?_ | refine zH ?_ | refine zI ?_ | refine zJ ?_ | refine zK ?_ | refine zL ?_ | refine zM ?_ | refine zN ?_ | refine zO ?_)
    repeat (first | refine zT rfl rfl rfl rfl rfl rfl (cbin_inc (by omega)) ?_ | refine zP rfl rfl rfl rfl rfl ?_ | refine zQ rfl rfl rfl ?_ | refine zR rfl rfl rfl rfl rfl (by first | assumption | exact cload_of (by assumption) rfl) ?_ | refine zS rfl rfl rfl rfl rfl rfl rfl rfl (by first | exact SlA.len (by assumption) rfl | exact Sl.map (by assumption) rfl | exact Sl.len (by assumption) rfl) ?_)
    refine pops.nil ?_
    repeat (first | refine zA ?_ | refine zB ?_ | refine zC ?_ | refine zD ?_ | refine zE ?_ | refine zF ?_ | refine zG rfl ?_ | refine zH ?_ | refine zI ?_ | refine zJ ?_ | refine zK ?_ | refine zL ?_ | refine zM ?_ | refine zN ?_ | refine zO ?_)
    refine pcond.d (p := (i : Int) < (C.length : Nat)) rfl (fun hlt => ?_) (fun hge => ?_)
    · have hlt : i < C.length := by omega
      obtain ⟨k, hk⟩ : ∃ x, C[i]? = some x := ⟨_, List.getElem?_eq_getElem hlt⟩
      obtain ⟨hle, hasc', hbt⟩ := betw_step hasc hk
      have hSL : SlI tab ks.int h' (.slice (some ⟨bL, 0, none⟩) C.length cL) C := Sl.one hL rfl rfl rfl (by rw [List.length_map]; omega) (by rw [List.length_map])
      repeat (first | refine zA ?_ | refine zB ?_ | refine zC ?_ | refine zD ?_ | refine zE ?_ | refine zF ?_ | refine zG rfl ?_ | refine zH ?_ | refine zI ?_ | refine zJ ?_ | refine zK ?_ | refine zL ?_ | refine zM ?_ | refine zN ?_ | refine zO ?_)
      refine pops.atI (f := Value.int .i64) rfl rfl rfl rfl rfl rfl rfl hSL hk fun q hq => ?_
      refine zR rfl rfl rfl rfl rfl (by first | assumption | exact cload_of (by assumption) rfl) ?_
      repeat (first | refine zT rfl rfl rfl rfl rfl rfl (cbin_inc (by omega)) ?_ | refine zP rfl rfl rfl rfl rfl ?_ | refine zQ rfl rfl rfl ?_ | refine zR rfl rfl rfl rfl rfl (by first | assumption | exact cload_of (by assumption) rfl) ?_ | refine zS rfl rfl rfl rfl rfl rfl rfl rfl (by first | exact SlA.len (by assumption) rfl | exact Sl.map (by assumption) rfl | exact Sl.len (by assumption) rfl) ?_)
      refine pops.nil ?_
      repeat (first | refine zA ?_ | refine zB ?_ | refine zC ?_ | refine zD ?_ | refine zE ?_ | refine zF ?_ | refine zG rfl ?_ | refine zH ?_ | refine zI ?_ | refine zJ ?_ | refine zK ?_ | refine zL ?_ | refine zM ?_ | refine zN ?_ | refine zO ?_)
      refine zP rfl rfl rfl rfl rfl ?_
      refine zP rfl rfl rfl rfl rfl ?_
      refine zZ rfl rfl rfl rfl rfl (fun q1 => ?_) (fun q1 => ?_)
      · have q1 := of_decide_eq_true q1
        rw [if_pos (by omega)] at hbt
        have hol : out.length ≤ 2000 := by
          have h9 := congrArg List.length hout
          rw [List.length_append] at h9
          have h10 := betw_len C 0
          omega
        obtain ⟨rl, hr1, hr2, hr3⟩ := hr bL out (u, k) h' hwf' hJ hbn hol
        refine zP rfl rfl rfl rfl rfl ?_
        refine zP rfl rfl rfl rfl rfl ?_
        refine zP rfl rfl rfl rfl rfl ?_
        refine zP rfl rfl rfl rfl rfl ?_
        refine zP rfl rfl rfl rfl rfl ?_
        refine pops.yield rfl rfl rfl rfl rfl rfl rfl hr1 hr2 (hr3.monoW fun uu h2 hwf2 hh => ?_)
        obtain ⟨rfl, hJ2, hL2, hn2⟩ := hh
        repeat (first | refine zT rfl rfl rfl rfl rfl rfl (cbin_inc (by omega)) ?_ | refine zP rfl rfl rfl rfl rfl ?_ | refine zQ rfl rfl rfl ?_ | refine zR rfl rfl rfl rfl rfl (by first | assumption | exact cload_of (by assumption) rfl) ?_ | refine zS rfl rfl rfl rfl rfl rfl rfl rfl (by first | exact SlA.len (by assumption) rfl | exact Sl.map (by assumption) rfl | exact Sl.len (by assumption) rfl) ?_)
        refine pops.nil ?_
        repeat (first | refine zA ?_ | refine zB ?_ | refine zC ?_ | refine zD ?_ | refine zE ?_ | refine zF ?_ | refine zG rfl ?_ | refine zH ?_ | refine zI ?_ | refine zJ ?_ | refine zK ?_ | refine zL ?_ | refine zM ?_ | refine zN ?_ | refine zO ?_)
        refine pcond.f rfl ?_
        repeat (first | refine zA ?_ | refine zB ?_ | refine zC ?_ | refine zD ?_ | refine zE ?_ | refine zF ?_ | refine zG rfl ?_ | refine zH ?_ | refine zI ?_ | refine zJ ?_ | refine zK ?_ | refine zL ?_ | refine zM ?_ | refine zN ?_ | refine zO ?_)
        repeat (first | refine zT rfl rfl rfl rfl rfl rfl (cbin_inc (by omega)) ?_ | refine zP rfl rfl rfl rfl rfl ?_ | refine zQ rfl rfl rfl ?_ | refine zR rfl rfl rfl rfl rfl (by first | assumption | exact cload_of (by assumption) rfl) ?_ | refine zS rfl rfl rfl rfl rfl rfl rfl rfl (by first | exact SlA.len (by assumption) rfl | exact Sl.map (by assumption) rfl | exact Sl.len (by assumption) rfl) ?_)
        refine pops.nil ?_
        repeat (first | refine zA ?_ | refine zB ?_ | refine zC ?_ | refine zD ?_ | refine zE ?_ | refine zF ?_ | refine zG rfl ?_ | refine zH ?_ | refine zI ?_ | refine zJ ?_ | refine zK ?_ | refine zL ?_ | refine zM ?_ | refine zN ?_ | refine zO ?_)
        repeat (first | refine zT rfl rfl rfl rfl rfl rfl (cbin_inc (by omega)) ?_ | refine zP rfl rfl rfl rfl rfl ?_ | refine zQ rfl rfl rfl ?_ | refine zR rfl rfl rfl rfl rfl (by first | assumption | exact cload_of (by assumption) rfl) ?_ | refine zS rfl rfl rfl rfl rfl rfl rfl rfl (by first | exact SlA.len (by assumption) rfl | exact Sl.map (by assumption) rfl | exact Sl.len (by assumption) rfl) ?_)
        refine pops.nil ?_
        refine .n ⟨_, (i + 1, k), rfl, ⟨rfl, rfl, rfl, rfl, rfl, trivial⟩, (by show C.length - (i + 1) < C.length - i; omega), (by show i + 1 ≤ C.length; omega), by omega, by rw [hL2]; exact hL, hasc', _, hJ2, ?_⟩
        rw [hout, hbt, List.append_assoc]
      · have q1 := of_decide_eq_false q1
        rw [if_neg (by omega)] at hbt
        repeat (first | refine zT rfl rfl rfl rfl rfl rfl (cbin_inc (by omega)) ?_ | refine zP rfl rfl rfl rfl rfl ?_ | refine zQ rfl rfl rfl ?_ | refine zR rfl rfl rfl rfl rfl (by first | assumption | exact cload_of (by assumption) rfl) ?_ | refine zS rfl rfl rfl rfl rfl rfl rfl rfl (by first | exact SlA.len (by assumption) rfl | exact Sl.map (by assumption) rfl | exact Sl.len (by assumption) rfl) ?_)
        refine pops.nil ?_
        repeat (first | refine zA ?_ | refine zB ?_ | refine zC ?_ | refine zD ?_ | refine zE ?_ | refine zF ?_ | refine zG rfl ?_ | refine zH ?_ | refine zI ?_ | refine zJ ?_ | refine zK ?_ | refine zL ?_ | refine zM ?_ | refine zN ?_ | refine zO ?_)
        refine pcond.f rfl ?_
        repeat (first | refine zA ?_ | refine zB ?_ | refine zC ?_ | refine zD ?_ | refine zE ?_ | refine zF ?_ | refine zG rfl ?_ | refine zH ?_ | refine zI ?_ | refine zJ ?_ | refine zK ?_ | refine zL ?_ | refine zM ?_ | refine zN ?_ | refine zO ?_)
        repeat (first | refine zT rfl rfl rfl rfl rfl rfl (cbin_inc (by omega)) ?_ | refine zP rfl rfl rfl rfl rfl ?_ | refine zQ rfl rfl rfl ?_ | refine zR rfl rfl rfl rfl rfl (by first | assumption | exact cload_of (by assumption) rfl) ?_ | refine zS rfl rfl rfl rfl rfl rfl rfl rfl (by first | exact SlA.len (by assumption) rfl | exact Sl.map (by assumption) rfl | exact Sl.len (by assumption) rfl) ?_)
        refine pops.nil ?_
        repeat (first | refine zA ?_ | refine zB ?_ | refine zC ?_ | refine zD ?_ | refine zE ?_ | refine zF ?_ | refine zG rfl ?_ | refine zH ?_ | refine zI ?_ | refine zJ ?_ | refine zK ?_ | refine zL ?_ | refine zM ?_ | refine zN ?_ | refine zO ?_)
        repeat (first | refine zT rfl rfl rfl rfl rfl rfl (cbin_inc (by omega)) ?_ | refine zP rfl rfl rfl rfl rfl ?_ | refine zQ rfl rfl rfl ?_ | refine zR rfl rfl rfl rfl rfl (by first | assumption | exact cload_of (by assumption) rfl) ?_ | refine zS rfl rfl rfl rfl rfl rfl rfl rfl (by first | exact SlA.len (by assumption) rfl | exact Sl.map (by assumption) rfl | exact Sl.len (by assumption) rfl) ?_)
        refine pops.nil ?_
        refine .n ⟨_, (i + 1, k), rfl, ⟨rfl, rfl, rfl, rfl, rfl, trivial⟩, (by show C.length - (i + 1) < C.length - i; omega), (by show i + 1 ≤ C.length; omega), hbn, hL, hasc', _, hJ, ?_⟩
        rw [hout, hbt, List.nil_append]
    · repeat (first | refine zA ?_ | refine zB ?_ | refine zC ?_ | refine zD ?_ | refine zE ?_ | refine zF ?_ | refine zG rfl ?_ | refine zH ?_ | refine zI ?_ | refine zJ ?_ | refine zK ?_ | refine zL ?_ | refine zM ?_ | refine zN ?_ | refine zO ?_)
      have hi' : i = C.length := by omega
      subst hi'
      refine pleave.n rfl ?_
      rw [List.drop_length] at hout
      refine ⟨⟨_, rfl⟩, bL, ?_, hwf'⟩
      rw [hout]
      show J bL (out ++ []) h'
      rw [List.append_nil]
      exact hJ
end Go.Proofs.YtpcoponpfhnhlaaGreatDoor
set_option maxRecDepth 100000
set_option linter.unusedVariables false
set_option linter.unusedSimpArgs false
namespace Go.Proofs.YtpcoponpfhnhlaaGreatDoor
open Go.Cx
variable {w : World} {h : CH}
theorem fn_parts : tab.fn 33 = some Tryz.f33 := by kernel_rfl
structure PartsFn (h : CH) (v : Value) (p : PropD) (t : TabD) (text : List Int) : Prop where
  ex : ∃ (c s c' a x y x' y' vx : Value) (bt bp bx : Nat), v = .func (.func 56) #[] #[.pointer (some ⟨bt, 0, none⟩), .pointer (some ⟨bp, 0, none⟩), .pointer (some ⟨bx, 0, none⟩)] ∧
    h.get bt = some (.cells [c', a, x, y, x', y'] false false) ∧ h.get bp = some (.cells [c, s] false false) ∧ h.get bx = some (.cells [vx] false false) ∧
    PropV tab ks.str 64 h (.agg #[c, s]) p ∧ TabV tab ks h (.agg #[c', a, x, y, x', y']) t ∧ SlI tab ks.int h vx text
theorem PartsFn.gr {h h' : CH} {v : Value} {p : PropD} {t : TabD} {text : List Int} (hf : PartsFn h v p t text) (hw : h.wf) (g : Gr h h') : PartsFn h' v p t text := by
  obtain ⟨c, s, c', a, x, y, x', y', vx, bt, bp, bx, h1, h2, h3, h4, h5, h6, h7⟩ := hf
  exact ⟨c, s, c', a, x, y, x', y', vx, bt, bp, bx, h1, g.at hw h2, g.at hw h3, g.at hw h4, h5.gr hw g, h6.gr hw g, Sl.gr h7 hw g⟩
theorem parts_calls {vp vt vx : Value} {p : PropD} {t : TabD} {text : List Int} (hp : PropV tab ks.str 64 h vp p) (ht : TabV tab ks h vt t) (hxx : SlI tab ks.int h vx text) :
    CalF (X w) 33 [vp, vt, vx] h fun r h' => (∃ v, r = .ret v ∧ PartsFn h' v p t text) ∧ Gr h h' := by
  refine CalF.wf fun hwf => ?_
  have hpV := hp
  have htV := ht
  obtain ⟨c, s, rfl, oc, os, hpn, hps⟩ := hp
  obtain ⟨c', a, x, y, x', y', rfl, ho, hcl, hac, hx, hy, hx', hy'⟩ := ht
  clear hac hx hy hx' hy' hpn hps hcl
  simp only [Bool.and_eq_true] at ho
  obtain ⟨av, cv, rfl⟩ := Sl.formM hxx
  refine CalF.intro fn_parts rfl (Nat.le_of_ble_eq_true rfl) ?_
  repeat (first | refine zA ?_ | refine zB ?_ | refine zC ?_ | refine zD ?_ | refine zE ?_ | refine zF ?_ | refine zG rfl ?_ | refine zH ?_ | refine zI ?_ | refine zJ ?_ | refine zK ?_ | refine zL ?_ | refine zM ?_ | refine zN ?_ | refine zO ?_)
  refine pops.box (cs := [c, s]) rfl rfl rfl rfl (by simp [oc, os]) rfl rfl hwf fun bp h1 hbp hwf1 g1 hc => ?_
  refine pops.box (cs := [c', a, x, y, x', y']) rfl rfl rfl rfl (by simp [ho]) rfl rfl hwf1 fun bt h2 hbt hwf2 g2 hct => ?_
  refine pops.box (cs := [.slice av text.length cv]) rfl rfl rfl rfl rfl rfl rfl hwf2 fun bx h3 hbx hwf3 g3 hcx => ?_
  have g03 := (g1.trans g2).trans g3
  repeat (first | refine zT rfl rfl rfl rfl rfl rfl (cbin_inc (by omega)) ?_ | refine zP rfl rfl rfl rfl rfl ?_ | refine zQ rfl rfl rfl ?_ | refine zR rfl rfl rfl rfl rfl (by first | assumption | exact cload_of (by assumption) rfl) ?_ | refine zS rfl rfl rfl rfl rfl rfl rfl rfl (by first | exact SlA.len (by assumption) rfl | exact Sl.map (by assumption) rfl | exact Sl.len (by assumption) rfl) ?_)
  refine pops.nil ?_
  repeat (first | refine zA ?_ | refine zB ?_ | refine zC ?_ | refine zD ?_ | refine zE ?_ | refine zF ?_ | refine zG rfl ?_ | refine zH ?_ | refine zI ?_ | refine zJ ?_ | refine zK ?_ | refine zL ?_ | refine zM ?_ | refine zN ?_ | refine zO ?_)
  repeat (first | refine zT rfl rfl rfl rfl rfl rfl (cbin_inc (by omega)) ?_ | refine zP rfl rfl rfl rfl rfl ?_ | refine zQ rfl rfl rfl ?_ | refine zR rfl rfl rfl rfl rfl (by first | assumption | exact cload_of (by assumption) rfl) ?_ | refine zS rfl rfl rfl rfl rfl rfl rfl rfl (by first | exact SlA.len (by assumption) rfl | exact Sl.map (by assumption) rfl | exact Sl.len (by assumption) rfl) ?_)
  refine pops.nil ?_
  repeat (first | refine zA ?_ | refine zB ?_ | refine zC ?_ | refine zD ?_ | refine zE ?_ | refine zF ?_ | refine zG rfl ?_ | refine zH ?_ | refine zI ?_ | refine zJ ?_ | refine zK ?_ | refine zL ?_ | refine zM ?_ | refine zN ?_ | refine zO ?_)
  refine pleave.r rfl ?_
  exact ⟨⟨_, rfl, ⟨c, s, c', a, x, y, x', y', _, bt, bp, bx, rfl, g3.at hwf2 hct, (g2.trans g3).at hwf1 hc, hcx, hpV.gr hwf g03, htV.gr hwf g03, Sl.gr hxx hwf g03⟩⟩, g03⟩
structure JA (h0 : CH) (bs d lid : Nat) (r0 : Loop) (bL : Nat) (out : List RangeD) (h' : CH) : Prop where
  g : Gr h0 h'
  hv : ∃ v b', h'.get bs = some (.cells [v] false false) ∧ h0.n ≤ b' ∧ b' ≠ bs ∧ b' ≠ d ∧ b' ≠ lid ∧ b' ≠ bL ∧ OwnA rangeC 2 h' v b' out
  hd : h'.get d = some (.deferred true)
  hlid : h'.get lid = some (.loop r0)
  hL : h0.n ≤ bL ∧ bL ≠ bs ∧ bL ≠ d ∧ bL ≠ lid
theorem fn_appendSeq : tab.fn 55 = some Tryz.f55 := by kernel_rfl
theorem range_und : ∃ fs : Array Field, tab.und 40 = some (.struct fs) := ⟨_, rfl⟩
theorem appendSeq_calls {v : Value} {p : PropD} {t : TabD} {text : List Int} (hf : PartsFn h v p t text) (hpl : TextsLt p.names) (htl : TextsLt t.classes) (hxl : text.length ≤ 1000) (hsl : p.spans.length < 1000000) :
    CalF (X w) 55 [.slice none 0 0, v] h fun r h' => (∃ u, r = .ret u ∧ SlR tab 40 h' u (partsD p t text)) ∧ Gr h h' := by
  refine CalF.wf fun hwf => ?_
  obtain ⟨c, s, c', a, x, y, x', y', vx, bt, bp, bx, rfl, hct, hc, hcx, hp, ht, hxx⟩ := hf
  obtain ⟨rfs, hru⟩ := range_und
  refine CalF.intro fn_appendSeq rfl (Nat.le_of_ble_eq_true rfl) ?_
  repeat (first | refine zA ?_ | refine zB ?_ | refine zC ?_ | refine zD ?_ | refine zE ?_ | refine zF ?_ | refine zG rfl ?_ | refine zH ?_ | refine zI ?_ | refine zJ ?_ | refine zK ?_ | refine zL ?_ | refine zM ?_ | refine zN ?_ | refine zO ?_)
  refine pops.box (cs := [.slice none 0 0]) rfl rfl rfl rfl rfl rfl rfl hwf fun bs h1 hbs hwf1 g1 hcs => ?_
  repeat (first | refine zT rfl rfl rfl rfl rfl rfl (cbin_inc (by omega)) ?_ | refine zP rfl rfl rfl rfl rfl ?_ | refine zQ rfl rfl rfl ?_ | refine zR rfl rfl rfl rfl rfl (by first | assumption | exact cload_of (by assumption) rfl) ?_ | refine zS rfl rfl rfl rfl rfl rfl rfl rfl (by first | exact SlA.len (by assumption) rfl | exact Sl.map (by assumption) rfl | exact Sl.len (by assumption) rfl) ?_)
  refine pops.nil ?_
  repeat (first | refine zA ?_ | refine zB ?_ | refine zC ?_ | refine zD ?_ | refine zE ?_ | refine zF ?_ | refine zG rfl ?_ | refine zH ?_ | refine zI ?_ | refine zJ ?_ | refine zK ?_ | refine zL ?_ | refine zM ?_ | refine zN ?_ | refine zO ?_)
  repeat (first | refine zT rfl rfl rfl rfl rfl rfl (cbin_inc (by omega)) ?_ | refine zP rfl rfl rfl rfl rfl ?_ | refine zQ rfl rfl rfl ?_ | refine zR rfl rfl rfl rfl rfl (by first | assumption | exact cload_of (by assumption) rfl) ?_ | refine zS rfl rfl rfl rfl rfl rfl rfl rfl (by first | exact SlA.len (by assumption) rfl | exact Sl.map (by assumption) rfl | exact Sl.len (by assumption) rfl) ?_)
  refine pops.nil ?_
  repeat (first | refine zA ?_ | refine zB ?_ | refine zC ?_ | refine zD ?_ | refine zE ?_ | refine zF ?_ | refine zG rfl ?_ | refine zH ?_ | refine zI ?_ | refine zJ ?_ | refine zK ?_ | refine zL ?_ | refine zM ?_ | refine zN ?_ | refine zO ?_)
  have hbs1 := CH.lt hwf1 hcs
  refine Runs.retab 5 [(2, .pointer (some ⟨bs, 0, none⟩)), (6, .func (.func 56) #[] #[.pointer (some ⟨bt, 0, none⟩), .pointer (some ⟨bp, 0, none⟩), .pointer (some ⟨bx, 0, none⟩)])] (by decide) ⟨rfl, rfl, trivial⟩ fun z => ?_
  refine Runs.rangeFuncG rfl fn_partsF rfl fun r0 hx6 hr0 hhx => ?_
  have g16 : Gr h1 hx6 := by rw [hhx]; exact (Gr.push _ _).trans (Gr.push _ _)
  have hwf6 : hx6.wf := by rw [hhx]; exact CH.wf_push (CH.wf_push hwf1 _) _
  have g06 := g1.trans g16
  have hn6 : hx6.n = h1.n + 2 := by rw [hhx]; rfl
  have hcs6 := g16.at hwf1 hcs
  have hd6 : hx6.get h1.n = some (.deferred true) := by rw [hhx, CH.get_push, CH.n_push, if_neg (by omega), CH.get_push, if_pos rfl]
  have hl6 : hx6.get (h1.n + 1) = some (.loop r0) := by rw [hhx, CH.get_push, CH.n_push, if_pos rfl]
  clear hhx
  refine (partsF_calls (g06.at hwf hct) (g06.at hwf hc) (g06.at hwf hcx) (hp.gr hwf g06) (ht.gr hwf g06) (Sl.gr hxx hwf g06) hpl htl hxl hsl (JA h bs h1.n (h1.n + 1) r0) ?_ ?_).mono ?_
  · intro h' bL hwf' g hbL
    refine ⟨g06.trans g, ⟨_, bL + 1, g.at hwf6 hcs6, by have := g1.n; omega, by omega, by omega, by omega, by omega, .inl ⟨rfl, rfl⟩⟩, g.at hwf6 hd6, g.at hwf6 hl6, by have := g1.n; omega, by omega, by omega, by omega⟩
  · rintro bL out r h' hwf' hj hbL hol
    subst hr0
    refine ⟨_, hj.hlid, rfl, ?_⟩
    obtain ⟨v, b', hv1, hv2, hv3, hv4, hv5, hv6, hown⟩ := hj.hv
    obtain ⟨hL1, hL2, hL3, hL4⟩ := hj.hL
    have hlidn := CH.lt hwf' hj.hlid
    have hdn := CH.lt hwf' hj.hd
    have hbsn := CH.lt hwf' hv1
    have hn0 := g1.n
    refine Rnd.intro ?_
    refine Runs.retab 5 [(2, .pointer (some ⟨bs, 0, none⟩)), (7, rangeV r)] (Nat.le_of_ble_eq_true (by kernel_rfl)) ⟨by kernel_rfl, by kernel_rfl, trivial⟩ fun z2 => ?_
    repeat (first | refine zA ?_ | refine zB ?_ | refine zC ?_ | refine zD ?_ | refine zE ?_ | refine zF ?_ | refine zG rfl ?_ | refine zH ?_ | refine zI ?_ | refine zJ ?_ | refine zK ?_ | refine zL ?_ | refine zM ?_ | refine zN ?_ | refine zO ?_)
    refine pops.alloc rfl rfl rfl rfl rfl hwf' fun b5 ha hb5 hwfa ga hca => ?_
    refine pops.store (cs' := rangeC r) rfl rfl rfl rfl rfl hca rfl rfl rfl rfl hwfa fun hb hwfb ub hcb => ?_
    have gb := ga.upd hb5 ub
    have hb5n := CH.lt hwfb hcb
    refine pops.nil ?_
    refine ⟨rfl, _, gb.at hwf' hj.hlid, rfl, ?_⟩
    generalize hhp : CH.put hb (h1.n + 1) _ = hpp
    have hwfp : hpp.wf := by rw [← hhp]; exact CH.wf_put hwfb (gb.at hwf' hj.hlid)
    have kp : ∀ c, c ≠ h1.n + 1 → hpp.get c = hb.get c := fun c hc => by rw [← hhp]; exact CH.put_get hc
    have np : hpp.n = hb.n := by rw [← hhp]; rfl
    have hb5l : b5 ≠ h1.n + 1 := by omega
    have hcp5 := (kp b5 hb5l).trans hcb
    have hvp := (kp bs (by omega)).trans (gb.at hwf' hv1)
    have hownp : OwnA rangeC 2 hpp v b' out := by
      rcases hown with hh | ⟨c, h1', h2', h3'⟩
      · exact .inl hh
      · exact .inr ⟨c, h1', (kp b' (by omega)).trans (gb.at hwf' h2'), h3'⟩
    have hbn : b' < hpp.n ∨ out = [] := by
      rcases hownp with hh | ⟨c, h1', h2', h3'⟩
      · exact .inr hh.1
      · exact .inl (CH.lt hwfp h2')
    repeat (first | refine zA ?_ | refine zB ?_ | refine zC ?_ | refine zD ?_ | refine zE ?_ | refine zF ?_ | refine zG rfl ?_ | refine zH ?_ | refine zI ?_ | refine zJ ?_ | refine zK ?_ | refine zL ?_ | refine zM ?_ | refine zN ?_ | refine zO ?_)
    refine zR rfl rfl rfl rfl rfl (by first | assumption | exact cload_of (by assumption) rfl) ?_
    refine zR rfl rfl rfl rfl rfl (by first | assumption | exact cload_of (by assumption) rfl) ?_
    refine pops.buildSlice (cs := rangeC r) rfl rfl rfl rfl rfl hwfp fun b6 hc6 hb6 hwfc gc hcc => ?_
    refine pops.appendA (f := rangeC) (s := 2) (x := r) (us := out) (b := b') (fun _ => rfl) (by decide) rfl rfl rfl rfl rfl rfl rfl rfl rfl rfl rfl rfl rfl rfl rfl rfl rfl hwfc (hownp.gr hwfp gc) rfl hcc (by omega) fun v2 b2 hd2 hwfd ch hb2 hown2 => ?_
    have hsd : hd2.get bs = some (.cells [v] false false) := (ch.get bs (by have := gc.n; have := CH.lt hwfp hvp; omega) (by omega)).trans (gc.at hwfp hvp)
    have hone : isOne v2 = true := by
      rcases hown2 with ⟨_, rfl⟩ | ⟨c, rfl, _⟩ <;> rfl
    have hv2c : v2.cells.toList = [v2] := by
      rcases hown2 with ⟨_, rfl⟩ | ⟨c, rfl, _⟩ <;> rfl
    refine pops.store (us := [v2]) (cs' := [v2]) rfl rfl rfl rfl rfl hsd rfl hv2c (by show (Nat.beq 1 1 && (isOne v2 && true)) = true; rw [hone]; rfl) rfl hwfd fun he hwfe ue hce => ?_
    refine pops.nil ?_
    repeat (first | refine zA ?_ | refine zB ?_ | refine zC ?_ | refine zD ?_ | refine zE ?_ | refine zF ?_ | refine zG rfl ?_ | refine zH ?_ | refine zI ?_ | refine zJ ?_ | refine zK ?_ | refine zL ?_ | refine zM ?_ | refine zN ?_ | refine zO ?_)
    have keyc : ∀ c, c < h'.n → c ≠ bs → c ≠ b' → he.get c = hpp.get c := fun c h1' h2' h3' =>
      (ue.get c h2').trans ((ch.get c (by have := gc.n; have := gb.n; omega) h3').trans (gc.get c (by have := gb.n; omega)))
    refine ⟨rfl, _, (keyc _ hlidn (by omega) (by omega)).trans ((congrArg (fun z => CH.get z (h1.n + 1)) hhp.symm).trans CH.put_self), rfl, ?_⟩
    have keyf : ∀ c (o : CObj), c < h'.n → c ≠ bs → c ≠ b' → c ≠ h1.n + 1 → (he.put (h1.n + 1) o).get c = h'.get c := fun c o h1' h2' h3' h4' =>
      (CH.put_get h4').trans ((keyc c h1' h2' h3').trans ((kp c h4').trans (gb.get c h1')))
    have hnn : h'.n ≤ he.n := by have := gb.n; have := gc.n; have := ch.n; have := ue.n; omega
    have hb2n : h'.n ≤ b2 := by have := gb.n; have := gc.n; omega
    refine ⟨⟨⟨Nat.le_trans hj.g.n hnn, fun c hc => ?_⟩, ⟨v2, b2, (CH.put_get (by omega)).trans hce, by have := hj.g.n; omega, by omega, by omega, by omega, by omega, ?_⟩, (keyf _ _ hdn (by omega) (by omega) (by omega)).trans hj.hd, CH.put_self, ⟨hL1, hL2, hL3, hL4⟩⟩, keyf bL _ hbL hL2 (by omega) hL4, hnn⟩
    · have := hj.g.n
      exact (keyf c _ (by omega) (by omega) (by omega) (by omega)).trans (hj.g.get c hc)
    · rcases hown2 with hh | ⟨c, h1', h2', h3'⟩
      · exact .inl hh
      · exact .inr ⟨c, h1', (CH.put_get (by omega)).trans ((ue.get _ (by omega)).trans h2'), h3'⟩
  · rintro r hh ⟨⟨u, rfl⟩, bL, hj, hwfh⟩
    refine ⟨⟨_, rfl⟩, hj.hlid, ?_⟩
    obtain ⟨v, b', hv1, hv2, hv3, hv4, hv5, hv6, hown⟩ := hj.hv
    have hn0 := g1.n
    generalize hhp : CH.put hh (h1.n + 1) _ = hp2
    have kp : ∀ c, c ≠ h1.n + 1 → hp2.get c = hh.get c := fun c hc => by rw [← hhp]; exact CH.put_get hc
    have hvp := (kp bs (by omega)).trans hv1
    have hdp := (kp h1.n (by omega)).trans hj.hd
    have gp : Gr h hp2 := by rw [← hhp]; exact hj.g.put (by omega) _
    repeat (first | refine zA ?_ | refine zB ?_ | refine zC ?_ | refine zD ?_ | refine zE ?_ | refine zF ?_ | refine zG rfl ?_ | refine zH ?_ | refine zI ?_ | refine zJ ?_ | refine zK ?_ | refine zL ?_ | refine zM ?_ | refine zN ?_ | refine zO ?_)
    refine zR rfl rfl rfl rfl rfl (by first | assumption | exact cload_of (by assumption) rfl) ?_
    refine zP rfl rfl rfl rfl rfl ?_
    refine pops.nil ?_
    repeat (first | refine zA ?_ | refine zB ?_ | refine zC ?_ | refine zD ?_ | refine zE ?_ | refine zF ?_ | refine zG rfl ?_ | refine zH ?_ | refine zI ?_ | refine zJ ?_ | refine zK ?_ | refine zL ?_ | refine zM ?_ | refine zN ?_ | refine zO ?_)
    refine pleave.rd hdp rfl ?_
    refine ⟨⟨v, rfl, ?_⟩, gp.put (by omega) _⟩
    have hpl := parts_le (p := p) (t := t) (text := text)
    refine OwnA.sl (f := rangeC) (g := rangeV) (s := 2) (fs := rfs) (b := b') ?_ (fun _ => rfl) (fun _ => rfl) rfl hru (by omega)
    rcases hown with hh' | ⟨c, h1', h2', h3'⟩
    · exact .inl hh'
    · exact .inr ⟨c, h1', (CH.put_get (by omega)).trans ((kp b' (by omega)).trans h2'), h3'⟩
theorem fn_collect : tab.fn 32 = some Tryz.f32 := by kernel_rfl
theorem collect_calls {v : Value} {p : PropD} {t : TabD} {text : List Int} (hf : PartsFn h v p t text) (hpl : TextsLt p.names) (htl : TextsLt t.classes) (hxl : text.length ≤ 1000) (hsl : p.spans.length < 1000000) :
    CalF (X w) 32 [v] h fun r h' => (∃ u, r = .ret u ∧ SlR tab 40 h' u (partsD p t text)) ∧ Gr h h' := by
  refine CalF.intro fn_collect rfl (Nat.le_of_ble_eq_true rfl) ?_
  repeat (first | refine zA ?_ | refine zB ?_ | refine zC ?_ | refine zD ?_ | refine zE ?_ | refine zF ?_ | refine zG rfl ?_ | refine zH ?_ | refine zI ?_ | refine zJ ?_ | refine zK ?_ | refine zL ?_ | refine zM ?_ | refine zN ?_ | refine zO ?_)
  refine zP rfl rfl rfl rfl rfl ?_
  refine pops.nil ?_
  repeat (first | refine zA ?_ | refine zB ?_ | refine zC ?_ | refine zD ?_ | refine zE ?_ | refine zF ?_ | refine zG rfl ?_ | refine zH ?_ | refine zI ?_ | refine zJ ?_ | refine zK ?_ | refine zL ?_ | refine zM ?_ | refine zN ?_ | refine zO ?_)
  refine zP rfl rfl rfl rfl rfl ?_
  refine pops.callV rfl rfl rfl rfl rfl fn_appendSeq rfl rfl ((appendSeq_calls hf hpl htl hxl hsl).mono fun r h2 hh => ?_)
  obtain ⟨⟨u, rfl, hu⟩, g⟩ := hh
  refine ⟨_, rfl, ?_⟩
  repeat (first | refine zT rfl rfl rfl rfl rfl rfl (cbin_inc (by omega)) ?_ | refine zP rfl rfl rfl rfl rfl ?_ | refine zQ rfl rfl rfl ?_ | refine zR rfl rfl rfl rfl rfl (by first | assumption | exact cload_of (by assumption) rfl) ?_ | refine zS rfl rfl rfl rfl rfl rfl rfl rfl (by first | exact SlA.len (by assumption) rfl | exact Sl.map (by assumption) rfl | exact Sl.len (by assumption) rfl) ?_)
  refine pops.nil ?_
  repeat (first | refine zA ?_ | refine zB ?_ | refine zC ?_ | refine zD ?_ | refine zE ?_ | refine zF ?_ | refine zG rfl ?_ | refine zH ?_ | refine zI ?_ | refine zJ ?_ | refine zK ?_ | refine zL ?_ | refine zM ?_ | refine zN ?_ | refine zO ?_)
  refine pleave.r rfl ?_
  exact ⟨⟨u, rfl, hu⟩, g⟩
theorem fn_SParts : tab.fn 13 = some Tryz.f13 := by kernel_rfl
theorem SParts_calls {vp vt vx : Value} {p : PropD} {t : TabD} {text : List Int} (hp : PropV tab ks.str 64 h vp p) (ht : TabV tab ks h vt t) (hxx : SlI tab ks.int h vx text) (hpl : TextsLt p.names) (htl : TextsLt t.classes) (hxl : text.length ≤ 1000) (hsl : p.spans.length < 1000000) :
    CalF (X w) 13 [vp, vt, vx] h fun r h' => (∃ u, r = .ret u ∧ SlR tab 40 h' u (partsD p t text)) ∧ Gr h h' := by
  refine CalF.wf fun hwf => ?_
  have hpV := hp
  have htV := ht
  obtain ⟨c, s, rfl, oc, os, hpn, hps⟩ := hp
  obtain ⟨c', a, x, y, x', y', rfl, ho, hcl, hac, hx, hy, hx', hy'⟩ := ht
  clear hac hx hy hx' hy' hpn hps hcl
  simp only [Bool.and_eq_true] at ho
  refine CalF.intro fn_SParts rfl (Nat.le_of_ble_eq_true rfl) ?_
  repeat (first | refine zA ?_ | refine zB ?_ | refine zC ?_ | refine zD ?_ | refine zE ?_ | refine zF ?_ | refine zG rfl ?_ | refine zH ?_ | refine zI ?_ | refine zJ ?_ | refine zK ?_ | refine zL ?_ | refine zM ?_ | refine zN ?_ | refine zO ?_)
  refine pops.box (cs := [c, s]) rfl rfl rfl rfl (by simp [oc, os]) rfl rfl hwf fun b h1 hb hwf1 g1 hc => ?_
  refine pops.box (cs := [c', a, x, y, x', y']) rfl rfl rfl rfl (by simp [ho]) rfl rfl hwf1 fun bt h2 hbt hwf2 g2 hct => ?_
  have g02 := g1.trans g2
  replace hc := g2.at hwf1 hc
  refine zP rfl rfl rfl rfl rfl ?_
  refine pops.nil ?_
  repeat (first | refine zA ?_ | refine zB ?_ | refine zC ?_ | refine zD ?_ | refine zE ?_ | refine zF ?_ | refine zG rfl ?_ | refine zH ?_ | refine zI ?_ | refine zJ ?_ | refine zK ?_ | refine zL ?_ | refine zM ?_ | refine zN ?_ | refine zO ?_)
  refine zR rfl rfl rfl rfl rfl (cload_of hc rfl) ?_
  refine zR rfl rfl rfl rfl rfl (cload_of hct rfl) ?_
  refine zP rfl rfl rfl rfl rfl ?_
  refine pops.callV rfl rfl rfl rfl rfl fn_parts rfl rfl ((parts_calls (hpV.gr hwf g02) (htV.gr hwf g02) (Sl.gr hxx hwf g02)).monoW fun r h3 hwf3 hh => ?_)
  obtain ⟨⟨v, rfl, hf⟩, g3⟩ := hh
  refine ⟨_, rfl, ?_⟩
  refine pops.callV rfl rfl rfl rfl rfl fn_collect rfl rfl ((collect_calls hf hpl htl hxl hsl).monoW fun r h4 hwf4 hh => ?_)
  obtain ⟨⟨u, rfl, hu⟩, g4⟩ := hh
  refine ⟨_, rfl, ?_⟩
  repeat (first | refine zT rfl rfl rfl rfl rfl rfl (cbin_inc (by omega)) ?_ | refine zP rfl rfl rfl rfl rfl ?_ | refine zQ rfl rfl rfl ?_ | refine zR rfl rfl rfl rfl rfl (by first | assumption | exact cload_of (by assumption) rfl) ?_ | refine zS rfl rfl rfl rfl rfl rfl rfl rfl (by first | exact SlA.len (by assumption) rfl | exact Sl.map (by assumption) rfl | exact Sl.len (by assumption) rfl) ?_)
  refine pops.nil ?_
  repeat (first | refine zA ?_ | refine zB ?_ | refine zC ?_ | refine zD ?_ | refine zE ?_ | refine zF ?_ | refine zG rfl ?_ | refine zH ?_ | refine zI ?_ | refine zJ ?_ | refine zK ?_ | refine zL ?_ | refine zM ?_ | refine zN ?_ | refine zO ?_)
  refine pleave.r rfl ?_
  exact ⟨⟨u, rfl, hu⟩, (g02.trans g3).trans g4⟩
end Go.Proofs.YtpcoponpfhnhlaaGreatDoor
set_option maxRecDepth 100000
set_option linter.unusedVariables false
set_option linter.unusedSimpArgs false
namespace Go.Proofs.YtpcoponpfhnhlaaGreatDoor
open Go.Cx
variable {w : World} {h : CH}
structure JC (h0 : CH) (bs d lid : Nat) (r0 : Loop) (bL : Nat) (out : List RangeD) (h' : CH) : Prop where
  g : Gr h0 h'
  hv : h'.get bs = some (.cells [.int .i64 (out.length : Int)] false false)
  hd : h'.get d = some (.deferred true)
  hlid : h'.get lid = some (.loop r0)
  hL : h0.n ≤ bL ∧ bL ≠ bs ∧ bL ≠ d ∧ bL ≠ lid
theorem fn_SCount : tab.fn 15 = some Tryz.f15 := by kernel_rfl
theorem SCount_calls {vp vt vx : Value} {p : PropD} {t : TabD} {text : List Int} (hp : PropV tab ks.str 64 h vp p) (ht : TabV tab ks h vt t) (hxx : SlI tab ks.int h vx text) (hpl : TextsLt p.names) (htl : TextsLt t.classes) (hxl : text.length ≤ 1000) (hsl : p.spans.length < 1000000) :
    CalF (X w) 15 [vp, vt, vx] h fun r h' => r = .ret (.int .i64 ((partsD p t text).length : Int)) ∧ Gr h h' := by
  refine CalF.wf fun hwf => ?_
  have hpV := hp
  have htV := ht
  obtain ⟨c, s, rfl, oc, os, hpn, hps⟩ := hp
  obtain ⟨c', a, x, y, x', y', rfl, ho, hcl, hac, hx, hy, hx', hy'⟩ := ht
  clear hac hx hy hx' hy' hpn hps hcl
  simp only [Bool.and_eq_true] at ho
  refine CalF.intro fn_SCount rfl (Nat.le_of_ble_eq_true rfl) ?_
  repeat (first | refine zA ?_ | refine zB ?_ | refine zC ?_ | refine zD ?_ | refine zE ?_ | refine zF ?_ | refine zG rfl ?_ | refine zH ?_ | refine zI ?_ | refine zJ ?_ | refine zK ?_ | refine zL ?_ | refine zM ?_ | refine zN ?_ | refine zO ?_)
  refine pops.box (cs := [c, s]) rfl rfl rfl rfl (by simp [oc, os]) rfl rfl hwf fun b h1 hb hwf1 g1 hc => ?_
  refine pops.box (cs := [c', a, x, y, x', y']) rfl rfl rfl rfl (by simp [ho]) rfl rfl hwf1 fun bt h2 hbt hwf2 g2 hct => ?_
  have g02 := g1.trans g2
  replace hc := g2.at hwf1 hc
  refine zP rfl rfl rfl rfl rfl ?_
  refine pops.nil ?_
  repeat (first | refine zA ?_ | refine zB ?_ | refine zC ?_ | refine zD ?_ | refine zE ?_ | refine zF ?_ | refine zG rfl ?_ | refine zH ?_ | refine zI ?_ | refine zJ ?_ | refine zK ?_ | refine zL ?_ | refine zM ?_ | refine zN ?_ | refine zO ?_)
  refine pops.alloc rfl rfl rfl rfl rfl hwf2 fun bs h3 hbs hwf3 g3 hcs => ?_
  refine pops.store (cs' := [.int .i64 ((([] : List RangeD).length : Nat) : Int)]) rfl rfl rfl rfl rfl hcs rfl rfl rfl rfl hwf3 fun h4 hwf4 u4 hcs4 => ?_
  have g4 := g3.upd hbs u4
  have hbs4 := CH.lt hwf4 hcs4
  replace hc := g4.at hwf2 hc
  replace hct := g4.at hwf2 hct
  have g04 := g02.trans g4
  refine pops.nil ?_
  repeat (first | refine zA ?_ | refine zB ?_ | refine zC ?_ | refine zD ?_ | refine zE ?_ | refine zF ?_ | refine zG rfl ?_ | refine zH ?_ | refine zI ?_ | refine zJ ?_ | refine zK ?_ | refine zL ?_ | refine zM ?_ | refine zN ?_ | refine zO ?_)
  refine zR rfl rfl rfl rfl rfl (cload_of hc rfl) ?_
  refine zR rfl rfl rfl rfl rfl (cload_of hct rfl) ?_
  refine zP rfl rfl rfl rfl rfl ?_
  refine pops.callV rfl rfl rfl rfl rfl fn_parts rfl rfl ((parts_calls (hpV.gr hwf g04) (htV.gr hwf g04) (Sl.gr hxx hwf g04)).monoW fun r h5 hwf5 hh => ?_)
  obtain ⟨⟨v, rfl, hf⟩, g5⟩ := hh
  refine ⟨_, rfl, ?_⟩
  have hcs5 := g5.at hwf4 hcs4
  obtain ⟨c2, s2, c2', a2, x2, y2, x2', y2', vx2, bt2, bp2, bx2, rfl, hct2, hc2, hcx2, hp2, ht2, hxx2⟩ := hf
  have g05 := g04.trans g5
  refine pops.nil ?_
  repeat (first | refine zA ?_ | refine zB ?_ | refine zC ?_ | refine zD ?_ | refine zE ?_ | refine zF ?_ | refine zG rfl ?_ | refine zH ?_ | refine zI ?_ | refine zJ ?_ | refine zK ?_ | refine zL ?_ | refine zM ?_ | refine zN ?_ | refine zO ?_)
  refine Runs.retab 5 [(7, .pointer (some ⟨bs, 0, none⟩)), (11, .func (.func 56) #[] #[.pointer (some ⟨bt2, 0, none⟩), .pointer (some ⟨bp2, 0, none⟩), .pointer (some ⟨bx2, 0, none⟩)])] (by decide) ⟨rfl, rfl, trivial⟩ fun z => ?_
  refine Runs.rangeFuncG rfl fn_partsF rfl fun r0 hx6 hr0 hhx => ?_
  have g16 : Gr h5 hx6 := by rw [hhx]; exact (Gr.push _ _).trans (Gr.push _ _)
  have hwf6 : hx6.wf := by rw [hhx]; exact CH.wf_push (CH.wf_push hwf5 _) _
  have g06 := g05.trans g16
  have hn6 : hx6.n = h5.n + 2 := by rw [hhx]; rfl
  have hcs6 := g16.at hwf5 hcs5
  have hbs5 := CH.lt hwf5 hcs5
  have hd6 : hx6.get h5.n = some (.deferred true) := by rw [hhx, CH.get_push, CH.n_push, if_neg (by omega), CH.get_push, if_pos rfl]
  have hl6 : hx6.get (h5.n + 1) = some (.loop r0) := by rw [hhx, CH.get_push, CH.n_push, if_pos rfl]
  have hn2 := g02.n
  have hn5 := g05.n
  clear hhx
  refine (partsF_calls (g16.at hwf5 hct2) (g16.at hwf5 hc2) (g16.at hwf5 hcx2) (hp2.gr hwf5 g16) (ht2.gr hwf5 g16) (Sl.gr hxx2 hwf5 g16) hpl htl hxl hsl (JC h bs h5.n (h5.n + 1) r0) ?_ ?_).mono ?_
  · intro h' bL hwf' g hbL
    exact ⟨g06.trans g, g.at hwf6 hcs6, g.at hwf6 hd6, g.at hwf6 hl6, by omega, by omega, by omega, by omega⟩
  · rintro bL out r h' hwf' hj hbL hol
    subst hr0
    refine ⟨_, hj.hlid, rfl, ?_⟩
    have hv1 := hj.hv
    obtain ⟨hL1, hL2, hL3, hL4⟩ := hj.hL
    have hlidn := CH.lt hwf' hj.hlid
    have hdn := CH.lt hwf' hj.hd
    have hbsn := CH.lt hwf' hv1
    refine Rnd.intro ?_
    refine Runs.retab 5 [(7, .pointer (some ⟨bs, 0, none⟩))] (Nat.le_of_ble_eq_true (by kernel_rfl)) ⟨by kernel_rfl, trivial⟩ fun z2 => ?_
    refine zL ?_
    refine ⟨rfl, _, hj.hlid, rfl, ?_⟩
    generalize hhp : CH.put h' (h5.n + 1) _ = hpp
    have hwfp : hpp.wf := by rw [← hhp]; exact CH.wf_put hwf' hj.hlid
    have kp : ∀ c, c ≠ h5.n + 1 → hpp.get c = h'.get c := fun c hc => by rw [← hhp]; exact CH.put_get hc
    have np : hpp.n = h'.n := by rw [← hhp]; rfl
    have hvp := (kp bs (by omega)).trans hv1
    repeat (first | refine zA ?_ | refine zB ?_ | refine zC ?_ | refine zD ?_ | refine zE ?_ | refine zF ?_ | refine zG rfl ?_ | refine zH ?_ | refine zI ?_ | refine zJ ?_ | refine zK ?_ | refine zL ?_ | refine zM ?_ | refine zN ?_ | refine zO ?_)
    refine zR rfl rfl rfl rfl rfl (by first | assumption | exact cload_of (by assumption) rfl) ?_
    refine zT rfl rfl rfl rfl rfl rfl (cbin_inc (i := out.length) (by omega)) ?_
    refine pops.store (cs' := [.int .i64 ((out.length + 1 : Nat) : Int)]) rfl rfl rfl rfl rfl hvp rfl rfl rfl rfl hwfp fun he hwfe ue hce => ?_
    refine pops.nil ?_
    repeat (first | refine zA ?_ | refine zB ?_ | refine zC ?_ | refine zD ?_ | refine zE ?_ | refine zF ?_ | refine zG rfl ?_ | refine zH ?_ | refine zI ?_ | refine zJ ?_ | refine zK ?_ | refine zL ?_ | refine zM ?_ | refine zN ?_ | refine zO ?_)
    have keyc : ∀ c, c ≠ bs → he.get c = hpp.get c := fun c h2' => ue.get c h2'
    refine ⟨rfl, _, (keyc _ (by omega)).trans ((congrArg (fun z => CH.get z (h5.n + 1)) hhp.symm).trans CH.put_self), rfl, ?_⟩
    have keyf : ∀ c (o : CObj), c ≠ bs → c ≠ h5.n + 1 → (he.put (h5.n + 1) o).get c = h'.get c := fun c o h2' h4' =>
      (CH.put_get h4').trans ((keyc c h2').trans (kp c h4'))
    have hnn : h'.n ≤ he.n := by have := ue.n; omega
    have hlen : (out ++ [r]).length = out.length + 1 := by simp
    refine ⟨⟨⟨Nat.le_trans hj.g.n hnn, fun c hc => ?_⟩, (CH.put_get (by omega)).trans (by rw [hlen]; exact hce), (keyf _ _ (by omega) (by omega)).trans hj.hd, CH.put_self, ⟨hL1, hL2, hL3, hL4⟩⟩, keyf bL _ hL2 hL4, hnn⟩
    exact (keyf c _ (by omega) (by omega)).trans (hj.g.get c hc)
  · rintro r hh ⟨⟨u, rfl⟩, bL, hj, hwfh⟩
    refine ⟨⟨_, rfl⟩, hj.hlid, ?_⟩
    have hv1 := hj.hv
    generalize hhp : CH.put hh (h5.n + 1) _ = hp2
    have kp : ∀ c, c ≠ h5.n + 1 → hp2.get c = hh.get c := fun c hc => by rw [← hhp]; exact CH.put_get hc
    have hvp := (kp bs (by omega)).trans hv1
    have hdp := (kp h5.n (by omega)).trans hj.hd
    have gp : Gr h hp2 := by rw [← hhp]; exact hj.g.put (by omega) _
    repeat (first | refine zA ?_ | refine zB ?_ | refine zC ?_ | refine zD ?_ | refine zE ?_ | refine zF ?_ | refine zG rfl ?_ | refine zH ?_ | refine zI ?_ | refine zJ ?_ | refine zK ?_ | refine zL ?_ | refine zM ?_ | refine zN ?_ | refine zO ?_)
    refine zR rfl rfl rfl rfl rfl (by first | assumption | exact cload_of (by assumption) rfl) ?_
    refine zP rfl rfl rfl rfl rfl ?_
    refine pops.nil ?_
    repeat (first | refine zA ?_ | refine zB ?_ | refine zC ?_ | refine zD ?_ | refine zE ?_ | refine zF ?_ | refine zG rfl ?_ | refine zH ?_ | refine zI ?_ | refine zJ ?_ | refine zK ?_ | refine zL ?_ | refine zM ?_ | refine zN ?_ | refine zO ?_)
    refine pleave.rd hdp rfl ?_
    exact ⟨rfl, gp.put (by omega) _⟩
end Go.Proofs.YtpcoponpfhnhlaaGreatDoor
set_option maxRecDepth 100000
set_option linter.unusedVariables false
set_option linter.unusedSimpArgs false
namespace Go.Proofs.YtpcoponpfhnhlaaGreatDoor
open Go.Cx
variable {w : World} {h : CH}
theorem range_eq {h : CH} {xo yo : Operand} (r : RangeD) : cbin tab h .neq 40 xo yo (rangeV r) (rangeV r) = some (.bool false) := by
  show (((some (r.1 == r.1)).bind fun b => cond b ((some (r.2 == r.2)).bind fun b => cond b (some true) (some false)) (some false)).map fun b => Value.bool !b) = some (.bool false)
  simp
theorem fn_SameRanges : tab.fn 19 = some Tryz.f19 := by kernel_rfl
theorem SameRanges_calls {va vb : Value} {l : List RangeD} (ha : SlR tab 40 h va l) (hb : SlR tab 40 h vb l) : CalF (X w) 19 [va, vb] h fun r h' => r = .ret (.bool true) ∧ Gr h h' := by
  refine CalF.wf fun hwf => ?_
  have hlt := ha.1
  rw [List.length_map] at hlt
  refine CalF.intro fn_SameRanges rfl (Nat.le_of_ble_eq_true rfl) ?_
  repeat (first | refine zA ?_ | refine zB ?_ | refine zC ?_ | refine zD ?_ | refine zE ?_ | refine zF ?_ | refine zG rfl ?_ | refine zH ?_ | refine zI ?_ | refine zJ ?_ | refine zK ?_ | refine zL ?_ | refine zM ?_ | refine zN ?_ | refine zO ?_)
  refine zP rfl rfl rfl rfl rfl ?_
  refine pops.nil ?_
  repeat (first | refine zA ?_ | refine zB ?_ | refine zC ?_ | refine zD ?_ | refine zE ?_ | refine zF ?_ | refine zG rfl ?_ | refine zH ?_ | refine zI ?_ | refine zJ ?_ | refine zK ?_ | refine zL ?_ | refine zM ?_ | refine zN ?_ | refine zO ?_)
  refine zP rfl rfl rfl rfl rfl ?_
  refine zS rfl rfl rfl rfl rfl rfl rfl rfl (Sl.map ha rfl) ?_
  refine zP rfl rfl rfl rfl rfl ?_
  refine zS rfl rfl rfl rfl rfl rfl rfl rfl (Sl.map hb rfl) ?_
  refine zZ rfl rfl rfl rfl rfl (fun q => ?_) (fun q => ?_)
  · simp at q
  refine pops.nil ?_
  repeat (first | refine zA ?_ | refine zB ?_ | refine zC ?_ | refine zD ?_ | refine zE ?_ | refine zF ?_ | refine zG rfl ?_ | refine zH ?_ | refine zI ?_ | refine zJ ?_ | refine zK ?_ | refine zL ?_ | refine zM ?_ | refine zN ?_ | refine zO ?_)
  refine pcond.f rfl ?_
  repeat (first | refine zA ?_ | refine zB ?_ | refine zC ?_ | refine zD ?_ | refine zE ?_ | refine zF ?_ | refine zG rfl ?_ | refine zH ?_ | refine zI ?_ | refine zJ ?_ | refine zK ?_ | refine zL ?_ | refine zM ?_ | refine zN ?_ | refine zO ?_)
  repeat (first | refine zT rfl rfl rfl rfl rfl rfl (cbin_inc (by omega)) ?_ | refine zP rfl rfl rfl rfl rfl ?_ | refine zQ rfl rfl rfl ?_ | refine zR rfl rfl rfl rfl rfl (by first | assumption | exact cload_of (by assumption) rfl) ?_ | refine zS rfl rfl rfl rfl rfl rfl rfl rfl (by first | exact SlA.len (by assumption) rfl | exact Sl.map (by assumption) rfl | exact Sl.len (by assumption) rfl) ?_)
  refine pops.nil ?_
  repeat (first | refine zA ?_ | refine zB ?_ | refine zC ?_ | refine zD ?_ | refine zE ?_ | refine zF ?_ | refine zG rfl ?_ | refine zH ?_ | refine zI ?_ | refine zJ ?_ | refine zK ?_ | refine zL ?_ | refine zM ?_ | refine zN ?_ | refine zO ?_)
  refine Loops.ind 6 (fun i : Nat => [(0, va), (1, vb), (5, .int .i64 (i : Nat))]) (fun i h' => i ≤ l.length ∧ h' = h) (fun i => l.length - i) 0 (by decide) ⟨rfl, rfl, rfl, trivial⟩ ⟨Nat.zero_le _, rfl⟩ ?_
  rintro i z h' hwf' ⟨hi, rfl⟩
  repeat (first | refine zA ?_ | refine zB ?_ | refine zC ?_ | refine zD ?_ | refine zE ?_ | refine zF ?_ | refine zG rfl ?_ | refine zH ?_ | refine zI ?_ | refine zJ ?_ | refine zK ?_ | refine zL ?_ | refine zM ?_ | refine zN ?_ | refine zO ?_)
  refine zP rfl rfl rfl rfl rfl ?_
  refine zP rfl rfl rfl rfl rfl ?_
  refine zS rfl rfl rfl rfl rfl rfl rfl rfl (Sl.map ha rfl) ?_
  refine zP rfl rfl rfl rfl rfl ?_
  refine pops.nil ?_
  repeat (first | refine zA ?_ | refine zB ?_ | refine zC ?_ | refine zD ?_ | refine zE ?_ | refine zF ?_ | refine zG rfl ?_ | refine zH ?_ | refine zI ?_ | refine zJ ?_ | refine zK ?_ | refine zL ?_ | refine zM ?_ | refine zN ?_ | refine zO ?_)
  refine pcond.d (p := (i : Int) < (l.length : Nat)) rfl (fun hlt' => ?_) (fun hge => ?_)
  · obtain ⟨x, hx⟩ : ∃ x, l[i]? = some x := ⟨_, List.getElem?_eq_getElem (by omega)⟩
    obtain ⟨p1, hp1, hq1⟩ := Sl.readM ha hwf' (ts := 35) rfl hx .i64
    obtain ⟨p2, hp2, hq2⟩ := Sl.readM hb hwf' (ts := 35) rfl hx .i64
    repeat (first | refine zA ?_ | refine zB ?_ | refine zC ?_ | refine zD ?_ | refine zE ?_ | refine zF ?_ | refine zG rfl ?_ | refine zH ?_ | refine zI ?_ | refine zJ ?_ | refine zK ?_ | refine zL ?_ | refine zM ?_ | refine zN ?_ | refine zO ?_)
    refine PG.start _ rfl rfl ?_
    refine zV (by decide +kernel) rfl rfl rfl rfl ?_
    refine zV (by decide +kernel) rfl rfl rfl rfl ?_
    refine zV (by decide +kernel) rfl rfl rfl (hp1) ?_
    refine zV (by decide +kernel) rfl rfl rfl (hq1 _ (Gr.refl _)) ?_
    refine zV (by decide +kernel) rfl rfl rfl rfl ?_
    refine zV (by decide +kernel) rfl rfl rfl rfl ?_
    refine zV (by decide +kernel) rfl rfl rfl (hp2) ?_
    refine zV (by decide +kernel) rfl rfl rfl (hq2 _ (Gr.refl _)) ?_
    refine zV (by decide +kernel) rfl rfl rfl (range_eq (h := h') (xo := .tmp 20) (yo := .tmp 24) x) ?_
    refine PG.nil ?_
    refine pd1.fin (by kernel_rfl) (by kernel_rfl) ?_
    repeat (first | refine zA ?_ | refine zB ?_ | refine zC ?_ | refine zD ?_ | refine zE ?_ | refine zF ?_ | refine zG rfl ?_ | refine zH ?_ | refine zI ?_ | refine zJ ?_ | refine zK ?_ | refine zL ?_ | refine zM ?_ | refine zN ?_ | refine zO ?_)
    refine pcond.f rfl ?_
    repeat (first | refine zA ?_ | refine zB ?_ | refine zC ?_ | refine zD ?_ | refine zE ?_ | refine zF ?_ | refine zG rfl ?_ | refine zH ?_ | refine zI ?_ | refine zJ ?_ | refine zK ?_ | refine zL ?_ | refine zM ?_ | refine zN ?_ | refine zO ?_)
    repeat (first | refine zT rfl rfl rfl rfl rfl rfl (cbin_inc (by omega)) ?_ | refine zP rfl rfl rfl rfl rfl ?_ | refine zQ rfl rfl rfl ?_ | refine zR rfl rfl rfl rfl rfl (by first | assumption | exact cload_of (by assumption) rfl) ?_ | refine zS rfl rfl rfl rfl rfl rfl rfl rfl (by first | exact SlA.len (by assumption) rfl | exact Sl.map (by assumption) rfl | exact Sl.len (by assumption) rfl) ?_)
    refine pops.nil ?_
    refine .n ⟨_, i + 1, rfl, ⟨rfl, rfl, rfl, trivial⟩, (by show l.length - (i + 1) < l.length - i; omega), by omega, rfl⟩
  · repeat (first | refine zA ?_ | refine zB ?_ | refine zC ?_ | refine zD ?_ | refine zE ?_ | refine zF ?_ | refine zG rfl ?_ | refine zH ?_ | refine zI ?_ | refine zJ ?_ | refine zK ?_ | refine zL ?_ | refine zM ?_ | refine zN ?_ | refine zO ?_)
    repeat (first | refine zT rfl rfl rfl rfl rfl rfl (cbin_inc (by omega)) ?_ | refine zP rfl rfl rfl rfl rfl ?_ | refine zQ rfl rfl rfl ?_ | refine zR rfl rfl rfl rfl rfl (by first | assumption | exact cload_of (by assumption) rfl) ?_ | refine zS rfl rfl rfl rfl rfl rfl rfl rfl (by first | exact SlA.len (by assumption) rfl | exact Sl.map (by assumption) rfl | exact Sl.len (by assumption) rfl) ?_)
    refine pops.nil ?_
    repeat (first | refine zA ?_ | refine zB ?_ | refine zC ?_ | refine zD ?_ | refine zE ?_ | refine zF ?_ | refine zG rfl ?_ | refine zH ?_ | refine zI ?_ | refine zJ ?_ | refine zK ?_ | refine zL ?_ | refine zM ?_ | refine zN ?_ | refine zO ?_)
    refine pleave.r rfl ?_
    exact ⟨rfl, Gr.refl _⟩
theorem fn_few30 : tab.fn 10 = some Tryz.f10 := by kernel_rfl
def few30 (p : PropD) (t : TabD) (text : List Int) : Bool := decide (p.names.length ≤ 20) && decide (p.spans.length ≤ 16) && tsmallB t && decide (text.length ≤ 40)
theorem few30_calls {vp vt vx : Value} {p : PropD} {t : TabD} {text : List Int} (hp : PropV tab ks.str 64 h vp p) (ht : TabV tab ks h vt t) (hxx : SlI tab ks.int h vx text) :
    CalF (X w) 10 [vp, vt, vx] h fun r h' => r = .ret (.bool (few30 p t text)) ∧ Gr h h' := by
  refine CalF.wf fun hwf => ?_
  have htV := ht
  obtain ⟨c, s, rfl, oc, os, hpn, hps⟩ := hp
  obtain ⟨c', a, x, y, x', y', rfl, ho, hcl, hac, hx, hy, hx', hy'⟩ := ht
  clear hac hx hy hx' hy' hcl
  simp only [Bool.and_eq_true] at ho
  refine CalF.intro fn_few30 rfl (Nat.le_of_ble_eq_true rfl) ?_
  repeat (first | refine zA ?_ | refine zB ?_ | refine zC ?_ | refine zD ?_ | refine zE ?_ | refine zF ?_ | refine zG rfl ?_ | refine zH ?_ | refine zI ?_ | refine zJ ?_ | refine zK ?_ | refine zL ?_ | refine zM ?_ | refine zN ?_ | refine zO ?_)
  refine pops.box (cs := [c, s]) rfl rfl rfl rfl (by simp [oc, os]) rfl rfl hwf fun b h1 hb hwf1 g1 hc => ?_
  refine pops.box (cs := [c', a, x, y, x', y']) rfl rfl rfl rfl (by simp [ho]) rfl rfl hwf1 fun bt h2 hbt hwf2 g2 hct => ?_
  have g02 := g1.trans g2
  replace hc := g2.at hwf1 hc
  replace hpn := Sl.gr hpn hwf g02
  replace hps := Sl.gr hps hwf g02
  unfold few30
  refine zP rfl rfl rfl rfl rfl ?_
  refine pops.nil ?_
  repeat (first | refine zA ?_ | refine zB ?_ | refine zC ?_ | refine zD ?_ | refine zE ?_ | refine zF ?_ | refine zG rfl ?_ | refine zH ?_ | refine zI ?_ | refine zJ ?_ | refine zK ?_ | refine zL ?_ | refine zM ?_ | refine zN ?_ | refine zO ?_)
  refine zP rfl rfl rfl rfl rfl ?_
  refine zR rfl rfl rfl rfl rfl (cload_of hc rfl) ?_
  refine zS rfl rfl rfl rfl rfl rfl rfl rfl (Sl.map hpn rfl) ?_
  refine zZ rfl rfl rfl rfl rfl (fun q1 => ?_) (fun q1 => ?_)
  rotate_left
  · have q1 := of_decide_eq_false q1
    repeat (first | refine zT rfl rfl rfl rfl rfl rfl (cbin_inc (by omega)) ?_ | refine zP rfl rfl rfl rfl rfl ?_ | refine zQ rfl rfl rfl ?_ | refine zR rfl rfl rfl rfl rfl (by first | assumption | exact cload_of (by assumption) rfl) ?_ | refine zS rfl rfl rfl rfl rfl rfl rfl rfl (by first | exact SlA.len (by assumption) rfl | exact Sl.map (by assumption) rfl | exact Sl.len (by assumption) rfl) ?_)
    refine pops.nil ?_
    repeat (first | refine zA ?_ | refine zB ?_ | refine zC ?_ | refine zD ?_ | refine zE ?_ | refine zF ?_ | refine zG rfl ?_ | refine zH ?_ | refine zI ?_ | refine zJ ?_ | refine zK ?_ | refine zL ?_ | refine zM ?_ | refine zN ?_ | refine zO ?_)
    refine pleave.r rfl ?_
    refine ⟨?_, g02⟩
    rw [decide_eq_false (p := p.names.length ≤ 20) (by omega)]
    rfl
  have q1 := of_decide_eq_true q1
  rw [decide_eq_true (p := p.names.length ≤ 20) (by omega)]
  refine zP rfl rfl rfl rfl rfl ?_
  refine zP rfl rfl rfl rfl rfl ?_
  refine zR rfl rfl rfl rfl rfl (cload_of hc rfl) ?_
  refine zS rfl rfl rfl rfl rfl rfl rfl rfl (Sl.map hps rfl) ?_
  refine zZ rfl rfl rfl rfl rfl (fun q2 => ?_) (fun q2 => ?_)
  rotate_left
  · have q2 := of_decide_eq_false q2
    repeat (first | refine zT rfl rfl rfl rfl rfl rfl (cbin_inc (by omega)) ?_ | refine zP rfl rfl rfl rfl rfl ?_ | refine zQ rfl rfl rfl ?_ | refine zR rfl rfl rfl rfl rfl (by first | assumption | exact cload_of (by assumption) rfl) ?_ | refine zS rfl rfl rfl rfl rfl rfl rfl rfl (by first | exact SlA.len (by assumption) rfl | exact Sl.map (by assumption) rfl | exact Sl.len (by assumption) rfl) ?_)
    refine pops.nil ?_
    repeat (first | refine zA ?_ | refine zB ?_ | refine zC ?_ | refine zD ?_ | refine zE ?_ | refine zF ?_ | refine zG rfl ?_ | refine zH ?_ | refine zI ?_ | refine zJ ?_ | refine zK ?_ | refine zL ?_ | refine zM ?_ | refine zN ?_ | refine zO ?_)
    refine pleave.r rfl ?_
    refine ⟨?_, g02⟩
    rw [decide_eq_false (p := p.spans.length ≤ 16) (by omega)]
    rfl
  have q2 := of_decide_eq_true q2
  rw [decide_eq_true (p := p.spans.length ≤ 16) (by omega)]
  refine zP rfl rfl rfl rfl rfl ?_
  refine zP rfl rfl rfl rfl rfl ?_
  refine zR rfl rfl rfl rfl rfl (cload_of hct rfl) ?_
  refine pops.callG rfl rfl rfl rfl rfl fn_tsmall rfl rfl rfl (tsmall_calls (htV.gr hwf g02)) fun h3 hwf3 g3 => ?_
  have hxx3 := Sl.gr hxx hwf (g02.trans g3)
  cases hP : tsmallB t with
  | false =>
    repeat (first | refine zT rfl rfl rfl rfl rfl rfl (cbin_inc (by omega)) ?_ | refine zP rfl rfl rfl rfl rfl ?_ | refine zQ rfl rfl rfl ?_ | refine zR rfl rfl rfl rfl rfl (by first | assumption | exact cload_of (by assumption) rfl) ?_ | refine zS rfl rfl rfl rfl rfl rfl rfl rfl (by first | exact SlA.len (by assumption) rfl | exact Sl.map (by assumption) rfl | exact Sl.len (by assumption) rfl) ?_)
    refine pops.nil ?_
    repeat (first | refine zA ?_ | refine zB ?_ | refine zC ?_ | refine zD ?_ | refine zE ?_ | refine zF ?_ | refine zG rfl ?_ | refine zH ?_ | refine zI ?_ | refine zJ ?_ | refine zK ?_ | refine zL ?_ | refine zM ?_ | refine zN ?_ | refine zO ?_)
    refine pleave.r rfl ?_
    exact ⟨rfl, g02.trans g3⟩
  | true =>
    repeat (first | refine zT rfl rfl rfl rfl rfl rfl (cbin_inc (by omega)) ?_ | refine zP rfl rfl rfl rfl rfl ?_ | refine zQ rfl rfl rfl ?_ | refine zR rfl rfl rfl rfl rfl (by first | assumption | exact cload_of (by assumption) rfl) ?_ | refine zS rfl rfl rfl rfl rfl rfl rfl rfl (by first | exact SlA.len (by assumption) rfl | exact Sl.map (by assumption) rfl | exact Sl.len (by assumption) rfl) ?_)
    refine pops.nil ?_
    repeat (first | refine zA ?_ | refine zB ?_ | refine zC ?_ | refine zD ?_ | refine zE ?_ | refine zF ?_ | refine zG rfl ?_ | refine zH ?_ | refine zI ?_ | refine zJ ?_ | refine zK ?_ | refine zL ?_ | refine zM ?_ | refine zN ?_ | refine zO ?_)
    refine pleave.r rfl ?_
    refine ⟨?_, g02.trans g3⟩
    refine congrArg (fun b => CRes.ret (Value.bool b)) (?_ : decide ((text.length : Int) ≤ 40) = _)
    rw [Bool.eq_iff_iff]
    simp
    omega
end Go.Proofs.YtpcoponpfhnhlaaGreatDoor