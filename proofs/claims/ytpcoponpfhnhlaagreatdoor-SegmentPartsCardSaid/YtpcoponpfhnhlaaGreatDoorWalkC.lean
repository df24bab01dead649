/- Walks through the functions that the statement reaches, and the statement. Conditions: none. -/
import Derived.Test.YtpcoponpfhnhlaaGreatDoorWalkB
import Derived.Test.YtpcoponpfhnhlaaGreatDoorCxE
import Derived.Test.YtpcoponpfhnhlaaGreatDoorWalkA
set_option maxRecDepth 100000
set_option linter.unusedVariables false
set_option linter.unusedSimpArgs false
namespace Go.Proofs.YtpcoponpfhnhlaaGreatDoor
open Go.Cx
variable {w : World} {h : CH}
theorem fn_refusable : tab.fn 61 = some Tryz.f61 := by kernel_rfl
theorem refusable_calls {v vl : Value} {t : TabD} {l : List Int} (hv : TabV tab ks h v t) (hl : SlI tab ks.int h vl l) (hlen : TextsLt t.classes) : CalF (X w) 61 [v, vl] h fun r h' => r = .ret (.bool (tt (UsableP t l))) ∧ Gr h h' := by
  refine CalF.wf fun hwf => ?_
  have hV := hv
  obtain ⟨c, a, x, y, x', y', rfl, ho, hcl, hac, hx, hy, hx', hy'⟩ := hv
  simp only [Bool.and_eq_true] at ho
  have hlt := hl.lt
  refine CalF.intro fn_refusable rfl (Nat.le_of_ble_eq_true rfl) ?_
  repeat (first | refine zA ?_ | refine zB ?_ | refine zC ?_ | refine zD ?_ | refine zE ?_ | refine zF ?_ | refine zG rfl ?_ | refine zH ?_ | refine zI ?_ | refine zJ ?_ | refine zK ?_ | refine zL ?_ | refine zM ?_ | refine zN ?_ | refine zO ?_)
  refine pops.box (cs := [c, a, x, y, x', y']) rfl rfl rfl rfl (by simp [ho]) rfl rfl hwf fun b h1 hb hwf1 g1 hc => ?_
  replace hV := hV.gr hwf g1
  replace hl := Sl.gr hl hwf g1
  replace hcl := Sl.gr hcl hwf g1
  refine zP rfl rfl rfl rfl rfl ?_
  refine pops.nil ?_
  repeat (first | refine zA ?_ | refine zB ?_ | refine zC ?_ | refine zD ?_ | refine zE ?_ | refine zF ?_ | refine zG rfl ?_ | refine zH ?_ | refine zI ?_ | refine zJ ?_ | refine zK ?_ | refine zL ?_ | refine zM ?_ | refine zN ?_ | refine zO ?_)
  repeat (first | refine zT rfl rfl rfl rfl rfl rfl (cbin_inc (by omega)) ?_ | refine zP rfl rfl rfl rfl rfl ?_ | refine zQ rfl rfl rfl ?_ | refine zR rfl rfl rfl rfl rfl (by first | assumption | exact cload_of (by assumption) rfl) ?_ | refine zS rfl rfl rfl rfl rfl rfl rfl rfl (by first | exact SlA.len (by assumption) rfl | exact Sl.map (by assumption) rfl | exact Sl.len (by assumption) rfl) ?_)
  refine pops.nil ?_
  repeat (first | refine zA ?_ | refine zB ?_ | refine zC ?_ | refine zD ?_ | refine zE ?_ | refine zF ?_ | refine zG rfl ?_ | refine zH ?_ | refine zI ?_ | refine zJ ?_ | refine zK ?_ | refine zL ?_ | refine zM ?_ | refine zN ?_ | refine zO ?_)
  refine Loops.ind 5 (fun i : Nat => [(1, vl), (2, .pointer (some ⟨b, 0, none⟩)), (4, .bool false), (5, .int .i64 (i : Nat))]) (fun i h' => i ≤ l.length ∧ h' = h1 ∧ ∀ (j : Nat) z, j < i → l[j]? = some z → 0 ≤ z ∧ z < (t.classes.length : Int)) (fun i => l.length - i) 0 (by decide) ⟨rfl, rfl, rfl, rfl, trivial⟩ ⟨Nat.zero_le _, rfl, all_none⟩ ?_
  rintro i z h' hwf' ⟨hi, rfl, hall⟩
  repeat (first | refine zA ?_ | refine zB ?_ | refine zC ?_ | refine zD ?_ | refine zE ?_ | refine zF ?_ | refine zG rfl ?_ | refine zH ?_ | refine zI ?_ | refine zJ ?_ | refine zK ?_ | refine zL ?_ | refine zM ?_ | refine zN ?_ | refine zO ?_)
  repeat (first | refine zT rfl rfl rfl rfl rfl rfl (cbin_inc (by omega)) ?_ | refine zP rfl rfl rfl rfl rfl ?_ | refine zQ rfl rfl rfl ?_ | refine zR rfl rfl rfl rfl rfl (by first | assumption | exact cload_of (by assumption) rfl) ?_ | refine zS rfl rfl rfl rfl rfl rfl rfl rfl (by first | exact SlA.len (by assumption) rfl | exact Sl.map (by assumption) rfl | exact Sl.len (by assumption) rfl) ?_)
  refine pops.nil ?_
  repeat (first | refine zA ?_ | refine zB ?_ | refine zC ?_ | refine zD ?_ | refine zE ?_ | refine zF ?_ | refine zG rfl ?_ | refine zH ?_ | refine zI ?_ | refine zJ ?_ | refine zK ?_ | refine zL ?_ | refine zM ?_ | refine zN ?_ | refine zO ?_)
  refine pcond.d (p := (i : Int) < (l.length : Nat)) rfl (fun hlt => ?_) (fun hge => ?_)
  · have hlt : i < l.length := by omega
    obtain ⟨q, hq⟩ : ∃ q, l[i]? = some q := ⟨_, List.getElem?_eq_getElem hlt⟩
    obtain ⟨p1, hp1, hq1⟩ := Sl.readM hl hwf' (ts := 26) rfl hq .i64
    have bad : ¬ (0 ≤ q ∧ q < (t.classes.length : Int)) → tt (UsableP t l) = false := fun hn => tt_f fun hU => hn (hU.2 q (List.mem_of_getElem? hq))
    repeat (first | refine zA ?_ | refine zB ?_ | refine zC ?_ | refine zD ?_ | refine zE ?_ | refine zF ?_ | refine zG rfl ?_ | refine zH ?_ | refine zI ?_ | refine zJ ?_ | refine zK ?_ | refine zL ?_ | refine zM ?_ | refine zN ?_ | refine zO ?_)
    refine PG.start _ rfl rfl ?_
    refine zV (by decide +kernel) rfl rfl rfl rfl ?_
    refine zV (by decide +kernel) rfl rfl rfl rfl ?_
    refine zV (by decide +kernel) rfl rfl rfl (hp1) ?_
    refine zV (by decide +kernel) rfl rfl rfl (hq1 _ (Gr.refl _)) ?_
    by_cases h0 : q < 0
    · refine zV (by decide +kernel) rfl rfl rfl (congrArg (fun b => some (Value.bool b)) (decide_eq_true h0)) ?_
      repeat (first | refine zU (by decide +kernel) ?_ | refine zV (by decide +kernel) rfl rfl rfl rfl ?_ | refine zW (by decide +kernel) rfl rfl rfl rfl rfl (by first | assumption | exact cload_of (by assumption) rfl) ?_ | refine zX (by decide +kernel) rfl rfl rfl ?_)
      refine PG.nil ?_
      refine pd1.fin (by kernel_rfl) (by kernel_rfl) ?_
      repeat (first | refine zA ?_ | refine zB ?_ | refine zC ?_ | refine zD ?_ | refine zE ?_ | refine zF ?_ | refine zG rfl ?_ | refine zH ?_ | refine zI ?_ | refine zJ ?_ | refine zK ?_ | refine zL ?_ | refine zM ?_ | refine zN ?_ | refine zO ?_)
      refine pcond.t rfl ?_
      repeat (first | refine zA ?_ | refine zB ?_ | refine zC ?_ | refine zD ?_ | refine zE ?_ | refine zF ?_ | refine zG rfl ?_ | refine zH ?_ | refine zI ?_ | refine zJ ?_ | refine zK ?_ | refine zL ?_ | refine zM ?_ | refine zN ?_ | refine zO ?_)
      repeat (first | refine zT rfl rfl rfl rfl rfl rfl (cbin_inc (by omega)) ?_ | refine zP rfl rfl rfl rfl rfl ?_ | refine zQ rfl rfl rfl ?_ | refine zR rfl rfl rfl rfl rfl (by first | assumption | exact cload_of (by assumption) rfl) ?_ | refine zS rfl rfl rfl rfl rfl rfl rfl rfl (by first | exact SlA.len (by assumption) rfl | exact Sl.map (by assumption) rfl | exact Sl.len (by assumption) rfl) ?_)
      refine pops.nil ?_
      repeat (first | refine zA ?_ | refine zB ?_ | refine zC ?_ | refine zD ?_ | refine zE ?_ | refine zF ?_ | refine zG rfl ?_ | refine zH ?_ | refine zI ?_ | refine zJ ?_ | refine zK ?_ | refine zL ?_ | refine zM ?_ | refine zN ?_ | refine zO ?_)
      refine pleave.r rfl ?_
      refine ⟨?_, g1⟩
      rw [bad (by omega)]
    · refine zV (by decide +kernel) rfl rfl rfl (congrArg (fun b => some (Value.bool b)) (decide_eq_false h0)) ?_
      refine zV (by decide +kernel) rfl rfl rfl rfl ?_
      refine zV (by decide +kernel) rfl rfl rfl rfl ?_
      refine zV (by decide +kernel) rfl rfl rfl rfl ?_
      refine zV (by decide +kernel) rfl rfl rfl (hp1) ?_
      refine zV (by decide +kernel) rfl rfl rfl (hq1 _ (Gr.refl _)) ?_
      refine zV (by decide +kernel) rfl rfl rfl rfl ?_
      refine zW (by decide +kernel) rfl rfl rfl rfl rfl (by first | assumption | exact cload_of (by assumption) rfl) ?_
      refine zV (by decide +kernel) rfl rfl rfl (SlS.len (ts := 22) hcl rfl) ?_
      refine zV (by decide +kernel) rfl rfl rfl rfl ?_
      refine zV (by decide +kernel) rfl rfl rfl rfl ?_
      refine PG.nil ?_
      refine pd1.fin (by kernel_rfl) (by kernel_rfl) ?_
      repeat (first | refine zA ?_ | refine zB ?_ | refine zC ?_ | refine zD ?_ | refine zE ?_ | refine zF ?_ | refine zG rfl ?_ | refine zH ?_ | refine zI ?_ | refine zJ ?_ | refine zK ?_ | refine zL ?_ | refine zM ?_ | refine zN ?_ | refine zO ?_)
      refine pcond.d (p := (t.classes.length : Int) ≤ q) rfl (fun hlt => ?_) (fun hge => ?_)
      · repeat (first | refine zA ?_ | refine zB ?_ | refine zC ?_ | refine zD ?_ | refine zE ?_ | refine zF ?_ | refine zG rfl ?_ | refine zH ?_ | refine zI ?_ | refine zJ ?_ | refine zK ?_ | refine zL ?_ | refine zM ?_ | refine zN ?_ | refine zO ?_)
        repeat (first | refine zT rfl rfl rfl rfl rfl rfl (cbin_inc (by omega)) ?_ | refine zP rfl rfl rfl rfl rfl ?_ | refine zQ rfl rfl rfl ?_ | refine zR rfl rfl rfl rfl rfl (by first | assumption | exact cload_of (by assumption) rfl) ?_ | refine zS rfl rfl rfl rfl rfl rfl rfl rfl (by first | exact SlA.len (by assumption) rfl | exact Sl.map (by assumption) rfl | exact Sl.len (by assumption) rfl) ?_)
        refine pops.nil ?_
        repeat (first | refine zA ?_ | refine zB ?_ | refine zC ?_ | refine zD ?_ | refine zE ?_ | refine zF ?_ | refine zG rfl ?_ | refine zH ?_ | refine zI ?_ | refine zJ ?_ | refine zK ?_ | refine zL ?_ | refine zM ?_ | refine zN ?_ | refine zO ?_)
        refine pleave.r rfl ?_
        refine ⟨?_, g1⟩
        rw [bad (by omega)]
      · repeat (first | refine zA ?_ | refine zB ?_ | refine zC ?_ | refine zD ?_ | refine zE ?_ | refine zF ?_ | refine zG rfl ?_ | refine zH ?_ | refine zI ?_ | refine zJ ?_ | refine zK ?_ | refine zL ?_ | refine zM ?_ | refine zN ?_ | refine zO ?_)
        repeat (first | refine zT rfl rfl rfl rfl rfl rfl (cbin_inc (by omega)) ?_ | refine zP rfl rfl rfl rfl rfl ?_ | refine zQ rfl rfl rfl ?_ | refine zR rfl rfl rfl rfl rfl (by first | assumption | exact cload_of (by assumption) rfl) ?_ | refine zS rfl rfl rfl rfl rfl rfl rfl rfl (by first | exact SlA.len (by assumption) rfl | exact Sl.map (by assumption) rfl | exact Sl.len (by assumption) rfl) ?_)
        refine pops.nil ?_
        refine .n ⟨_, i + 1, rfl, ⟨rfl, rfl, rfl, rfl, trivial⟩, (by show l.length - (i + 1) < l.length - i; omega), by omega, rfl, all_next hall hq ⟨by omega, by omega⟩⟩
  · repeat (first | refine zA ?_ | refine zB ?_ | refine zC ?_ | refine zD ?_ | refine zE ?_ | refine zF ?_ | refine zG rfl ?_ | refine zH ?_ | refine zI ?_ | refine zJ ?_ | refine zK ?_ | refine zL ?_ | refine zM ?_ | refine zN ?_ | refine zO ?_)
    have hA := all_end hall (by omega)
    refine zR rfl rfl rfl rfl rfl (by first | assumption | exact cload_of (by assumption) rfl) ?_
    refine pops.callG rfl rfl rfl rfl rfl fn_refvalid rfl rfl rfl (refvalid_calls hV hlen) fun h2 hwf2 g2 => ?_
    repeat (first | refine zT rfl rfl rfl rfl rfl rfl (cbin_inc (by omega)) ?_ | refine zP rfl rfl rfl rfl rfl ?_ | refine zQ rfl rfl rfl ?_ | refine zR rfl rfl rfl rfl rfl (by first | assumption | exact cload_of (by assumption) rfl) ?_ | refine zS rfl rfl rfl rfl rfl rfl rfl rfl (by first | exact SlA.len (by assumption) rfl | exact Sl.map (by assumption) rfl | exact Sl.len (by assumption) rfl) ?_)
    refine pops.nil ?_
    repeat (first | refine zA ?_ | refine zB ?_ | refine zC ?_ | refine zD ?_ | refine zE ?_ | refine zF ?_ | refine zG rfl ?_ | refine zH ?_ | refine zI ?_ | refine zJ ?_ | refine zK ?_ | refine zL ?_ | refine zM ?_ | refine zN ?_ | refine zO ?_)
    refine pleave.r rfl ?_
    refine ⟨?_, g1.trans g2⟩
    cases hP : tt (ValidP t) with
    | false =>
      rw [tt_f]
      intro hU
      rw [tt_t hU.1] at hP
      cases hP
    | true => rw [tt_t (p := UsableP t l) ⟨tt_iff.1 hP, hA⟩]
theorem fn_refLeft : tab.fn 81 = some Tryz.f81 := by kernel_rfl
theorem refLeft_calls {v vl : Value} {t : TabD} {l : List Int} (hv : TabV tab ks h v t) (hl : SlI tab ks.int h vl l) (hlen : TextsLt t.classes) (hll : l.length ≤ 1000) : CalF (X w) 81 [v, vl] h fun r h' => (∃ u, r = .ret u ∧ SlI tab ks.int h' u (LeftR t l)) ∧ Gr h h' := by
  refine CalF.wf fun hwf => ?_
  have hV := hv
  obtain ⟨c, a, x, y, x', y', rfl, ho, hcl, hac, hx, hy, hx', hy'⟩ := hv
  simp only [Bool.and_eq_true] at ho
  refine CalF.intro fn_refLeft rfl (Nat.le_of_ble_eq_true rfl) ?_
  repeat (first | refine zA ?_ | refine zB ?_ | refine zC ?_ | refine zD ?_ | refine zE ?_ | refine zF ?_ | refine zG rfl ?_ | refine zH ?_ | refine zI ?_ | refine zJ ?_ | refine zK ?_ | refine zL ?_ | refine zM ?_ | refine zN ?_ | refine zO ?_)
  refine pops.box (cs := [c, a, x, y, x', y']) rfl rfl rfl rfl (by simp [ho]) rfl rfl hwf fun b h1 hb hwf1 g1 hc => ?_
  refine zP rfl rfl rfl rfl rfl ?_
  refine pops.nil ?_
  repeat (first | refine zA ?_ | refine zB ?_ | refine zC ?_ | refine zD ?_ | refine zE ?_ | refine zF ?_ | refine zG rfl ?_ | refine zH ?_ | refine zI ?_ | refine zJ ?_ | refine zK ?_ | refine zL ?_ | refine zM ?_ | refine zN ?_ | refine zO ?_)
  repeat (first | refine zT rfl rfl rfl rfl rfl rfl (cbin_inc (by omega)) ?_ | refine zP rfl rfl rfl rfl rfl ?_ | refine zQ rfl rfl rfl ?_ | refine zR rfl rfl rfl rfl rfl (by first | assumption | exact cload_of (by assumption) rfl) ?_ | refine zS rfl rfl rfl rfl rfl rfl rfl rfl (by first | exact SlA.len (by assumption) rfl | exact Sl.map (by assumption) rfl | exact Sl.len (by assumption) rfl) ?_)
  refine pops.callG rfl rfl rfl rfl rfl fn_refusable rfl rfl rfl (refusable_calls (hV.gr hwf g1) (Sl.gr hl hwf g1) hlen) fun h2 hwf2 g2 => ?_
  have g02 := g1.trans g2
  replace hc := g2.at hwf1 hc
  replace hx := hx.gr hwf g02
  replace hl := Sl.gr hl hwf g02
  clear g1 g2 hwf1 hb h1
  unfold LeftR
  cases hU : tt (UsableP t l) with
  | false =>
    repeat (first | refine zT rfl rfl rfl rfl rfl rfl (cbin_inc (by omega)) ?_ | refine zP rfl rfl rfl rfl rfl ?_ | refine zQ rfl rfl rfl ?_ | refine zR rfl rfl rfl rfl rfl (by first | assumption | exact cload_of (by assumption) rfl) ?_ | refine zS rfl rfl rfl rfl rfl rfl rfl rfl (by first | exact SlA.len (by assumption) rfl | exact Sl.map (by assumption) rfl | exact Sl.len (by assumption) rfl) ?_)
    refine pops.nil ?_
    repeat (first | refine zA ?_ | refine zB ?_ | refine zC ?_ | refine zD ?_ | refine zE ?_ | refine zF ?_ | refine zG rfl ?_ | refine zH ?_ | refine zI ?_ | refine zJ ?_ | refine zK ?_ | refine zL ?_ | refine zM ?_ | refine zN ?_ | refine zO ?_)
    refine pcond.t rfl ?_
    repeat (first | refine zA ?_ | refine zB ?_ | refine zC ?_ | refine zD ?_ | refine zE ?_ | refine zF ?_ | refine zG rfl ?_ | refine zH ?_ | refine zI ?_ | refine zJ ?_ | refine zK ?_ | refine zL ?_ | refine zM ?_ | refine zN ?_ | refine zO ?_)
    repeat (first | refine zT rfl rfl rfl rfl rfl rfl (cbin_inc (by omega)) ?_ | refine zP rfl rfl rfl rfl rfl ?_ | refine zQ rfl rfl rfl ?_ | refine zR rfl rfl rfl rfl rfl (by first | assumption | exact cload_of (by assumption) rfl) ?_ | refine zS rfl rfl rfl rfl rfl rfl rfl rfl (by first | exact SlA.len (by assumption) rfl | exact Sl.map (by assumption) rfl | exact Sl.len (by assumption) rfl) ?_)
    refine pops.nil ?_
    repeat (first | refine zA ?_ | refine zB ?_ | refine zC ?_ | refine zD ?_ | refine zE ?_ | refine zF ?_ | refine zG rfl ?_ | refine zH ?_ | refine zI ?_ | refine zJ ?_ | refine zK ?_ | refine zL ?_ | refine zM ?_ | refine zN ?_ | refine zO ?_)
    refine pleave.r rfl ?_
    exact ⟨⟨_, rfl, nil_ints⟩, g02⟩
  | true =>
  replace hU := tt_iff.1 hU
  repeat (first | refine zT rfl rfl rfl rfl rfl rfl (cbin_inc (by omega)) ?_ | refine zP rfl rfl rfl rfl rfl ?_ | refine zQ rfl rfl rfl ?_ | refine zR rfl rfl rfl rfl rfl (by first | assumption | exact cload_of (by assumption) rfl) ?_ | refine zS rfl rfl rfl rfl rfl rfl rfl rfl (by first | exact SlA.len (by assumption) rfl | exact Sl.map (by assumption) rfl | exact Sl.len (by assumption) rfl) ?_)
  refine pops.nil ?_
  repeat (first | refine zA ?_ | refine zB ?_ | refine zC ?_ | refine zD ?_ | refine zE ?_ | refine zF ?_ | refine zG rfl ?_ | refine zH ?_ | refine zI ?_ | refine zJ ?_ | refine zK ?_ | refine zL ?_ | refine zM ?_ | refine zN ?_ | refine zO ?_)
  refine pcond.f rfl ?_
  repeat (first | refine zA ?_ | refine zB ?_ | refine zC ?_ | refine zD ?_ | refine zE ?_ | refine zF ?_ | refine zG rfl ?_ | refine zH ?_ | refine zI ?_ | refine zJ ?_ | refine zK ?_ | refine zL ?_ | refine zM ?_ | refine zN ?_ | refine zO ?_)
  refine pops.buildSlice (cs := [.int .i64 0]) rfl rfl rfl rfl rfl hwf2 fun b0 h3 hb0 hwf3 g3 hc0 => ?_
  repeat (first | refine zT rfl rfl rfl rfl rfl rfl (cbin_inc (by omega)) ?_ | refine zP rfl rfl rfl rfl rfl ?_ | refine zQ rfl rfl rfl ?_ | refine zR rfl rfl rfl rfl rfl (by first | assumption | exact cload_of (by assumption) rfl) ?_ | refine zS rfl rfl rfl rfl rfl rfl rfl rfl (by first | exact SlA.len (by assumption) rfl | exact Sl.map (by assumption) rfl | exact Sl.len (by assumption) rfl) ?_)
  refine pops.nil ?_
  repeat (first | refine zA ?_ | refine zB ?_ | refine zC ?_ | refine zD ?_ | refine zE ?_ | refine zF ?_ | refine zG rfl ?_ | refine zH ?_ | refine zI ?_ | refine zJ ?_ | refine zK ?_ | refine zL ?_ | refine zM ?_ | refine zN ?_ | refine zO ?_)
  repeat (first | refine zT rfl rfl rfl rfl rfl rfl (cbin_inc (by omega)) ?_ | refine zP rfl rfl rfl rfl rfl ?_ | refine zQ rfl rfl rfl ?_ | refine zR rfl rfl rfl rfl rfl (by first | assumption | exact cload_of (by assumption) rfl) ?_ | refine zS rfl rfl rfl rfl rfl rfl rfl rfl (by first | exact SlA.len (by assumption) rfl | exact Sl.map (by assumption) rfl | exact Sl.len (by assumption) rfl) ?_)
  refine pops.nil ?_
  repeat (first | refine zA ?_ | refine zB ?_ | refine zC ?_ | refine zD ?_ | refine zE ?_ | refine zF ?_ | refine zG rfl ?_ | refine zH ?_ | refine zI ?_ | refine zJ ?_ | refine zK ?_ | refine zL ?_ | refine zM ?_ | refine zN ?_ | refine zO ?_)
  refine Loops.ind 6 (fun s : Nat × Value => [(1, vl), (2, .pointer (some ⟨b, 0, none⟩)), (5, s.2), (6, .int .i64 (s.1 : Nat))])
    (fun s h' => s.1 ≤ l.length ∧ Gr h2 h' ∧ ∃ b', h2.n ≤ b' ∧ Own h' s.2 b' ((List.range (s.1 + 1)).map fun i => Value.int .i64 (st t.left.next l i : Int)))
    (fun s => l.length - s.1) (0, .slice (some ⟨b0, 0, none⟩) 1 1) (by decide) ⟨rfl, rfl, rfl, rfl, trivial⟩ ⟨Nat.zero_le _, g3, b0, hb0, .inr ⟨1, rfl, hc0, .inl rfl⟩⟩ ?_
  clear hc0 g3 hwf3 hb0
  rintro ⟨i, vo⟩ z h' hwf' ⟨hi, g2, b', hb', hown⟩
  simp only at hi hown
  replace hc := g2.at hwf2 hc
  replace hx := hx.gr hwf2 g2
  replace hl := Sl.gr hl hwf2 g2
  have hownS : Sl tab ks.int h' vo ((List.range (i + 1)).map fun i => Value.int .i64 (st t.left.next l i : Int)) := hown.sl rfl rfl rfl (by simp; omega)
  repeat (first | refine zA ?_ | refine zB ?_ | refine zC ?_ | refine zD ?_ | refine zE ?_ | refine zF ?_ | refine zG rfl ?_ | refine zH ?_ | refine zI ?_ | refine zJ ?_ | refine zK ?_ | refine zL ?_ | refine zM ?_ | refine zN ?_ | refine zO ?_)
  repeat (first | refine zT rfl rfl rfl rfl rfl rfl (cbin_inc (by omega)) ?_ | refine zP rfl rfl rfl rfl rfl ?_ | refine zQ rfl rfl rfl ?_ | refine zR rfl rfl rfl rfl rfl (by first | assumption | exact cload_of (by assumption) rfl) ?_ | refine zS rfl rfl rfl rfl rfl rfl rfl rfl (by first | exact SlA.len (by assumption) rfl | exact Sl.map (by assumption) rfl | exact Sl.len (by assumption) rfl) ?_)
  refine pops.nil ?_
  repeat (first | refine zA ?_ | refine zB ?_ | refine zC ?_ | refine zD ?_ | refine zE ?_ | refine zF ?_ | refine zG rfl ?_ | refine zH ?_ | refine zI ?_ | refine zJ ?_ | refine zK ?_ | refine zL ?_ | refine zM ?_ | refine zN ?_ | refine zO ?_)
  refine pcond.d (p := (i : Int) < (l.length : Nat)) rfl (fun hlt => ?_) (fun hge => ?_)
  · have hlt : i < l.length := by omega
    obtain ⟨cc, hcc⟩ : ∃ c, l[i]? = some c := ⟨_, List.getElem?_eq_getElem hlt⟩
    have hcr := hU.2 cc (List.mem_of_getElem? hcc)
    obtain ⟨k, rfl⟩ : ∃ k : Nat, cc = k := Int.eq_ofNat_of_zero_le hcr.1
    have hkc : k < t.classes.length := by omega
    have hS := hU.1.2.2.2.1
    obtain ⟨h5, row, h6, h7⟩ := stepTo_ok hS (st_ok hS hU.2 i hi) hkc
    have hst : st t.left.next l (i + 1) = stepTo t.left.next (st t.left.next l i) k := by
      show stepTo _ _ (l.getD i 0).toNat = _
      rw [List.getD_eq_getElem?_getD, hcc]
      rfl
    obtain ⟨p1, hp1, hq1⟩ := hownS.readG hwf' (ts := 26) rfl (i := i) (x := .int .i64 (st t.left.next l i : Int)) (by rw [List.getElem?_map, List.getElem?_range (by omega)]; rfl) .i64
    obtain ⟨p2, u2, hp2, hu2, hq2⟩ := SlA.readG hx hwf' (ts := 27) rfl h6 .i64
    obtain ⟨p3, hp3, hq3⟩ := Sl.readM hu2 hwf' (ts := 26) rfl h7 .i64
    obtain ⟨p4, hp4, hq4⟩ := Sl.readM hl hwf' (ts := 26) rfl hcc .i64
    repeat (first | refine zA ?_ | refine zB ?_ | refine zC ?_ | refine zD ?_ | refine zE ?_ | refine zF ?_ | refine zG rfl ?_ | refine zH ?_ | refine zI ?_ | refine zJ ?_ | refine zK ?_ | refine zL ?_ | refine zM ?_ | refine zN ?_ | refine zO ?_)
    refine PG.start _ rfl rfl ?_
    refine zV (by decide +kernel) rfl rfl rfl rfl ?_
    refine zV (by decide +kernel) rfl rfl rfl rfl ?_
    refine zV (by decide +kernel) rfl rfl rfl rfl ?_
    refine zW (by decide +kernel) rfl rfl rfl rfl rfl (by first | assumption | exact cload_of (by assumption) rfl) ?_
    refine zV (by decide +kernel) rfl rfl rfl rfl ?_
    refine zV (by decide +kernel) rfl rfl rfl rfl ?_
    refine zV (by decide +kernel) rfl rfl rfl (hp1) ?_
    refine zV (by decide +kernel) rfl rfl rfl (hq1 _ (Gr.refl _)) ?_
    refine zV (by decide +kernel) rfl rfl rfl (hp2) ?_
    refine zV (by decide +kernel) rfl rfl rfl (hq2 _ (Gr.refl _)) ?_
    refine zV (by decide +kernel) rfl rfl rfl rfl ?_
    refine zV (by decide +kernel) rfl rfl rfl rfl ?_
    refine zV (by decide +kernel) rfl rfl rfl (hp4) ?_
    refine zV (by decide +kernel) rfl rfl rfl (hq4 _ (Gr.refl _)) ?_
    refine zV (by decide +kernel) rfl rfl rfl (hp3) ?_
    refine zV (by decide +kernel) rfl rfl rfl (hq3 _ (Gr.refl _)) ?_
    repeat refine zU (by decide +kernel) ?_
    refine PG.nil ?_
    refine pd1.buildSlice (cs := [.int .i64 (stepTo t.left.next (st t.left.next l i) k : Int)]) 16 rfl (by kernel_rfl) rfl rfl rfl rfl rfl hwf' fun b1 h3 hb1 hwf3 g3 hc3 => ?_
    refine ⟨_, by (repeat (first | exact Reck.nil | (apply Reck.dropI; decide +kernel) | (apply Reck.keep; rfl) | (apply Reck.load; rfl; rfl; first | assumption | exact cload_of (by assumption) rfl) | (apply Reck.same; rfl) | (apply Reck.inc; rfl; rfl; rfl; omega))), ?_⟩
    repeat (first | refine zU (by decide +kernel) ?_ | refine zV (by decide +kernel) rfl rfl rfl rfl ?_ | refine zW (by decide +kernel) rfl rfl rfl rfl rfl (by first | assumption | exact cload_of (by assumption) rfl) ?_ | refine zX (by decide +kernel) rfl rfl rfl ?_)
    refine PG.nil ?_
    refine pd1.append1 17 rfl (by kernel_rfl) rfl rfl rfl rfl rfl rfl rfl rfl rfl rfl rfl rfl rfl rfl rfl rfl rfl hwf3 (hown.gr hwf' g3) rfl hc3 (by simp; omega) fun v' b2 h4 hwf4 ch hb2 hown4 => ?_
    refine ⟨_, by (repeat (first | exact Reck.nil | (apply Reck.dropI; decide +kernel) | (apply Reck.keep; rfl) | (apply Reck.load; rfl; rfl; first | assumption | exact cload_of (by assumption) rfl) | (apply Reck.same; rfl) | (apply Reck.inc; rfl; rfl; rfl; omega))), ?_⟩
    repeat (first | refine zU (by decide +kernel) ?_ | refine zV (by decide +kernel) rfl rfl rfl rfl ?_ | refine zW (by decide +kernel) rfl rfl rfl rfl rfl (by first | assumption | exact cload_of (by assumption) rfl) ?_ | refine zX (by decide +kernel) rfl rfl rfl ?_)
    refine PG.nil ?_
    refine pd1.fin (by kernel_rfl) (by kernel_rfl) ?_
    repeat (first | refine zA ?_ | refine zB ?_ | refine zC ?_ | refine zD ?_ | refine zE ?_ | refine zF ?_ | refine zG rfl ?_ | refine zH ?_ | refine zI ?_ | refine zJ ?_ | refine zK ?_ | refine zL ?_ | refine zM ?_ | refine zN ?_ | refine zO ?_)
    repeat (first | refine zT rfl rfl rfl rfl rfl rfl (cbin_inc (by omega)) ?_ | refine zP rfl rfl rfl rfl rfl ?_ | refine zQ rfl rfl rfl ?_ | refine zR rfl rfl rfl rfl rfl (by first | assumption | exact cload_of (by assumption) rfl) ?_ | refine zS rfl rfl rfl rfl rfl rfl rfl rfl (by first | exact SlA.len (by assumption) rfl | exact Sl.map (by assumption) rfl | exact Sl.len (by assumption) rfl) ?_)
    refine pops.nil ?_
    refine .n ⟨_, (i + 1, v'), rfl, ⟨rfl, rfl, rfl, rfl, trivial⟩, (by show l.length - (i + 1) < l.length - i; omega), (by show i + 1 ≤ l.length; omega), (g2.trans g3).chg hb' ch, b2, Nat.le_trans g2.n (Nat.le_trans g3.n hb2), ?_⟩
    show Own h4 v' b2 ((List.range (i + 1 + 1)).map _)
    rw [List.range_succ, List.map_append]
    rw [← hst] at hown4
    exact hown4
  · repeat (first | refine zA ?_ | refine zB ?_ | refine zC ?_ | refine zD ?_ | refine zE ?_ | refine zF ?_ | refine zG rfl ?_ | refine zH ?_ | refine zI ?_ | refine zJ ?_ | refine zK ?_ | refine zL ?_ | refine zM ?_ | refine zN ?_ | refine zO ?_)
    have hi' : i = l.length := by omega
    subst hi'
    repeat (first | refine zT rfl rfl rfl rfl rfl rfl (cbin_inc (by omega)) ?_ | refine zP rfl rfl rfl rfl rfl ?_ | refine zQ rfl rfl rfl ?_ | refine zR rfl rfl rfl rfl rfl (by first | assumption | exact cload_of (by assumption) rfl) ?_ | refine zS rfl rfl rfl rfl rfl rfl rfl rfl (by first | exact SlA.len (by assumption) rfl | exact Sl.map (by assumption) rfl | exact Sl.len (by assumption) rfl) ?_)
    refine pops.nil ?_
    repeat (first | refine zA ?_ | refine zB ?_ | refine zC ?_ | refine zD ?_ | refine zE ?_ | refine zF ?_ | refine zG rfl ?_ | refine zH ?_ | refine zI ?_ | refine zJ ?_ | refine zK ?_ | refine zL ?_ | refine zM ?_ | refine zN ?_ | refine zO ?_)
    refine pleave.r rfl ?_
    refine ⟨⟨vo, rfl, ?_⟩, g02.trans g2⟩
    unfold leftS
    show Sl _ _ _ _ (List.map _ (List.map _ _))
    rw [List.map_map]
    exact hownS
theorem fn_refRight : tab.fn 82 = some Tryz.f82 := by kernel_rfl
theorem refRight_calls {v vl : Value} {t : TabD} {l : List Int} (hv : TabV tab ks h v t) (hl : SlI tab ks.int h vl l) (hlen : TextsLt t.classes) (hll : l.length ≤ 1000) : CalF (X w) 82 [v, vl] h fun r h' => (∃ u, r = .ret u ∧ SlI tab ks.int h' u (RightR t l)) ∧ Gr h h' := by
  refine CalF.wf fun hwf => ?_
  have hV := hv
  obtain ⟨c, a, x, y, x', y', rfl, ho, hcl, hac, hx, hy, hx', hy'⟩ := hv
  simp only [Bool.and_eq_true] at ho
  refine CalF.intro fn_refRight rfl (Nat.le_of_ble_eq_true rfl) ?_
  repeat (first | refine zA ?_ | refine zB ?_ | refine zC ?_ | refine zD ?_ | refine zE ?_ | refine zF ?_ | refine zG rfl ?_ | refine zH ?_ | refine zI ?_ | refine zJ ?_ | refine zK ?_ | refine zL ?_ | refine zM ?_ | refine zN ?_ | refine zO ?_)
  refine pops.box (cs := [c, a, x, y, x', y']) rfl rfl rfl rfl (by simp [ho]) rfl rfl hwf fun b h1 hb hwf1 g1 hc => ?_
  refine zP rfl rfl rfl rfl rfl ?_
  refine pops.nil ?_
  repeat (first | refine zA ?_ | refine zB ?_ | refine zC ?_ | refine zD ?_ | refine zE ?_ | refine zF ?_ | refine zG rfl ?_ | refine zH ?_ | refine zI ?_ | refine zJ ?_ | refine zK ?_ | refine zL ?_ | refine zM ?_ | refine zN ?_ | refine zO ?_)
  repeat (first | refine zT rfl rfl rfl rfl rfl rfl (cbin_inc (by omega)) ?_ | refine zP rfl rfl rfl rfl rfl ?_ | refine zQ rfl rfl rfl ?_ | refine zR rfl rfl rfl rfl rfl (by first | assumption | exact cload_of (by assumption) rfl) ?_ | refine zS rfl rfl rfl rfl rfl rfl rfl rfl (by first | exact SlA.len (by assumption) rfl | exact Sl.map (by assumption) rfl | exact Sl.len (by assumption) rfl) ?_)
  refine pops.callG rfl rfl rfl rfl rfl fn_refusable rfl rfl rfl (refusable_calls (hV.gr hwf g1) (Sl.gr hl hwf g1) hlen) fun h2 hwf2 g2 => ?_
  have g02 := g1.trans g2
  replace hc := g2.at hwf1 hc
  replace hx' := hx'.gr hwf g02
  replace hl := Sl.gr hl hwf g02
  clear g1 g2 hwf1 hb h1
  unfold RightR
  cases hU : tt (UsableP t l) with
  | false =>
    repeat (first | refine zT rfl rfl rfl rfl rfl rfl (cbin_inc (by omega)) ?_ | refine zP rfl rfl rfl rfl rfl ?_ | refine zQ rfl rfl rfl ?_ | refine zR rfl rfl rfl rfl rfl (by first | assumption | exact cload_of (by assumption) rfl) ?_ | refine zS rfl rfl rfl rfl rfl rfl rfl rfl (by first | exact SlA.len (by assumption) rfl | exact Sl.map (by assumption) rfl | exact Sl.len (by assumption) rfl) ?_)
    refine pops.nil ?_
    repeat (first | refine zA ?_ | refine zB ?_ | refine zC ?_ | refine zD ?_ | refine zE ?_ | refine zF ?_ | refine zG rfl ?_ | refine zH ?_ | refine zI ?_ | refine zJ ?_ | refine zK ?_ | refine zL ?_ | refine zM ?_ | refine zN ?_ | refine zO ?_)
    refine pcond.t rfl ?_
    repeat (first | refine zA ?_ | refine zB ?_ | refine zC ?_ | refine zD ?_ | refine zE ?_ | refine zF ?_ | refine zG rfl ?_ | refine zH ?_ | refine zI ?_ | refine zJ ?_ | refine zK ?_ | refine zL ?_ | refine zM ?_ | refine zN ?_ | refine zO ?_)
    repeat (first | refine zT rfl rfl rfl rfl rfl rfl (cbin_inc (by omega)) ?_ | refine zP rfl rfl rfl rfl rfl ?_ | refine zQ rfl rfl rfl ?_ | refine zR rfl rfl rfl rfl rfl (by first | assumption | exact cload_of (by assumption) rfl) ?_ | refine zS rfl rfl rfl rfl rfl rfl rfl rfl (by first | exact SlA.len (by assumption) rfl | exact Sl.map (by assumption) rfl | exact Sl.len (by assumption) rfl) ?_)
    refine pops.nil ?_
    repeat (first | refine zA ?_ | refine zB ?_ | refine zC ?_ | refine zD ?_ | refine zE ?_ | refine zF ?_ | refine zG rfl ?_ | refine zH ?_ | refine zI ?_ | refine zJ ?_ | refine zK ?_ | refine zL ?_ | refine zM ?_ | refine zN ?_ | refine zO ?_)
    refine pleave.r rfl ?_
    exact ⟨⟨_, rfl, nil_ints⟩, g02⟩
  | true =>
  replace hU := tt_iff.1 hU
  repeat (first | refine zT rfl rfl rfl rfl rfl rfl (cbin_inc (by omega)) ?_ | refine zP rfl rfl rfl rfl rfl ?_ | refine zQ rfl rfl rfl ?_ | refine zR rfl rfl rfl rfl rfl (by first | assumption | exact cload_of (by assumption) rfl) ?_ | refine zS rfl rfl rfl rfl rfl rfl rfl rfl (by first | exact SlA.len (by assumption) rfl | exact Sl.map (by assumption) rfl | exact Sl.len (by assumption) rfl) ?_)
  refine pops.nil ?_
  repeat (first | refine zA ?_ | refine zB ?_ | refine zC ?_ | refine zD ?_ | refine zE ?_ | refine zF ?_ | refine zG rfl ?_ | refine zH ?_ | refine zI ?_ | refine zJ ?_ | refine zK ?_ | refine zL ?_ | refine zM ?_ | refine zN ?_ | refine zO ?_)
  refine pcond.f rfl ?_
  repeat (first | refine zA ?_ | refine zB ?_ | refine zC ?_ | refine zD ?_ | refine zE ?_ | refine zF ?_ | refine zG rfl ?_ | refine zH ?_ | refine zI ?_ | refine zJ ?_ | refine zK ?_ | refine zL ?_ | refine zM ?_ | refine zN ?_ | refine zO ?_)
  repeat (first | refine zT rfl rfl rfl rfl rfl rfl (cbin_inc (by omega)) ?_ | refine zP rfl rfl rfl rfl rfl ?_ | refine zQ rfl rfl rfl ?_ | refine zR rfl rfl rfl rfl rfl (by first | assumption | exact cload_of (by assumption) rfl) ?_ | refine zS rfl rfl rfl rfl rfl rfl rfl rfl (by first | exact SlA.len (by assumption) rfl | exact Sl.map (by assumption) rfl | exact Sl.len (by assumption) rfl) ?_)
  refine pops.makeSlice (z := .int .i64 0) (m := l.length + 1) rfl rfl rfl rfl rfl rfl rfl rfl rfl rfl rfl (by omega) hwf2 fun bs h3 hbs hwf3 g3 hcs => ?_
  repeat (first | refine zT rfl rfl rfl rfl rfl rfl (cbin_inc (by omega)) ?_ | refine zP rfl rfl rfl rfl rfl ?_ | refine zQ rfl rfl rfl ?_ | refine zR rfl rfl rfl rfl rfl (by first | assumption | exact cload_of (by assumption) rfl) ?_ | refine zS rfl rfl rfl rfl rfl rfl rfl rfl (by first | exact SlA.len (by assumption) rfl | exact Sl.map (by assumption) rfl | exact Sl.len (by assumption) rfl) ?_)
  refine pops.nil ?_
  repeat (first | refine zA ?_ | refine zB ?_ | refine zC ?_ | refine zD ?_ | refine zE ?_ | refine zF ?_ | refine zG rfl ?_ | refine zH ?_ | refine zI ?_ | refine zJ ?_ | refine zK ?_ | refine zL ?_ | refine zM ?_ | refine zN ?_ | refine zO ?_)
  refine zP rfl rfl rfl rfl rfl ?_
  refine zS rfl rfl rfl rfl rfl rfl rfl rfl (SlI.len (Sl.gr hl hwf2 g3) rfl) ?_
  refine zT rfl rfl rfl rfl rfl rfl (cbin_dec1 (by omega)) ?_
  repeat (first | refine zT rfl rfl rfl rfl rfl rfl (cbin_inc (by omega)) ?_ | refine zP rfl rfl rfl rfl rfl ?_ | refine zQ rfl rfl rfl ?_ | refine zR rfl rfl rfl rfl rfl (by first | assumption | exact cload_of (by assumption) rfl) ?_ | refine zS rfl rfl rfl rfl rfl rfl rfl rfl (by first | exact SlA.len (by assumption) rfl | exact Sl.map (by assumption) rfl | exact Sl.len (by assumption) rfl) ?_)
  refine pops.nil ?_
  repeat (first | refine zA ?_ | refine zB ?_ | refine zC ?_ | refine zD ?_ | refine zE ?_ | refine zF ?_ | refine zG rfl ?_ | refine zH ?_ | refine zI ?_ | refine zJ ?_ | refine zK ?_ | refine zL ?_ | refine zM ?_ | refine zN ?_ | refine zO ?_)
  refine Loops.ind 6 (fun m : Nat => [(1, vl), (2, .pointer (some ⟨b, 0, none⟩)), (5, .slice (some ⟨bs, 0, none⟩) (l.length + 1) (l.length + 1)), (6, .int .i64 ((m : Int) - 1))])
    (fun m h' => m ≤ l.length ∧ Gr h2 h' ∧ h'.get bs = some (.cells (rowM (rst t.right.next l) l.length m) false false))
    (fun m => m) l.length (by decide) ⟨rfl, rfl, rfl, rfl, trivial⟩ ⟨Nat.le_refl _, g3, by rw [rowM_init _ _ rfl]; exact hcs⟩ ?_
  clear hcs g3 hwf3
  rintro m z h' hwf' ⟨hm, g2, hcs⟩
  replace hc := g2.at hwf2 hc
  replace hx' := hx'.gr hwf2 g2
  replace hl := Sl.gr hl hwf2 g2
  repeat (first | refine zA ?_ | refine zB ?_ | refine zC ?_ | refine zD ?_ | refine zE ?_ | refine zF ?_ | refine zG rfl ?_ | refine zH ?_ | refine zI ?_ | refine zJ ?_ | refine zK ?_ | refine zL ?_ | refine zM ?_ | refine zN ?_ | refine zO ?_)
  repeat (first | refine zT rfl rfl rfl rfl rfl rfl (cbin_inc (by omega)) ?_ | refine zP rfl rfl rfl rfl rfl ?_ | refine zQ rfl rfl rfl ?_ | refine zR rfl rfl rfl rfl rfl (by first | assumption | exact cload_of (by assumption) rfl) ?_ | refine zS rfl rfl rfl rfl rfl rfl rfl rfl (by first | exact SlA.len (by assumption) rfl | exact Sl.map (by assumption) rfl | exact Sl.len (by assumption) rfl) ?_)
  refine pops.nil ?_
  repeat (first | refine zA ?_ | refine zB ?_ | refine zC ?_ | refine zD ?_ | refine zE ?_ | refine zF ?_ | refine zG rfl ?_ | refine zH ?_ | refine zI ?_ | refine zJ ?_ | refine zK ?_ | refine zL ?_ | refine zM ?_ | refine zN ?_ | refine zO ?_)
  refine pcond.d (p := (0 : Int) ≤ (m : Int) - 1) rfl (fun hlt => ?_) (fun hge => ?_)
  · obtain ⟨j, rfl⟩ : ∃ j, m = j + 1 := ⟨m - 1, by omega⟩
    have e : (((j + 1 : Nat) : Int) - 1) = (j : Int) := by omega
    rw [e]
    obtain ⟨xx, hxx⟩ : ∃ x, l[j]? = some x := ⟨_, List.getElem?_eq_getElem (by omega)⟩
    have hcr := hU.2 xx (List.mem_of_getElem? hxx)
    obtain ⟨k, rfl⟩ : ∃ k : Nat, xx = k := Int.eq_ofNat_of_zero_le hcr.1
    have hkc : k < t.classes.length := by omega
    have hS := hU.1.2.2.2.2
    obtain ⟨h6, row, h7, h8⟩ := stepTo_ok hS (rst_ok hS hU.2 (l.length - (j + 1)) (by omega)) hkc
    have hst : rst t.right.next l (l.length - j) = stepTo t.right.next (rst t.right.next l (l.length - (j + 1))) k := by
      rw [show l.length - j = (l.length - (j + 1)) + 1 by omega]
      show stepTo _ _ (l.getD (l.length - 1 - (l.length - (j + 1))) 0).toNat = _
      rw [show l.length - 1 - (l.length - (j + 1)) = j by omega, List.getD_eq_getElem?_getD, hxx]
      rfl
    have hS1 : Sl tab ks.int h' (.slice (some ⟨bs, 0, none⟩) (l.length + 1) (l.length + 1)) (rowM (rst t.right.next l) l.length (j + 1)) := Sl.one hcs rfl rfl rfl (by rw [rowM_length]; omega) (rowM_length _ _ _)
    obtain ⟨p1, hp1, hq1⟩ := hS1.readG hwf' (ts := 26) rfl (rowM_get (rst t.right.next l) l.length (j + 1) (j + 1) hm (Nat.le_refl _)) .i64
    obtain ⟨p2, u2, hp2, hu2, hq2⟩ := SlA.readG hx' hwf' (ts := 27) rfl h7 .i64
    obtain ⟨p3, hp3, hq3⟩ := Sl.readM hu2 hwf' (ts := 26) rfl h8 .i64
    obtain ⟨p4, hp4, hq4⟩ := Sl.readM hl hwf' (ts := 26) rfl hxx .i64
    repeat (first | refine zA ?_ | refine zB ?_ | refine zC ?_ | refine zD ?_ | refine zE ?_ | refine zF ?_ | refine zG rfl ?_ | refine zH ?_ | refine zI ?_ | refine zJ ?_ | refine zK ?_ | refine zL ?_ | refine zM ?_ | refine zN ?_ | refine zO ?_)
    refine PG.start _ rfl rfl ?_
    refine zV (by decide +kernel) rfl rfl rfl rfl ?_
    refine zV (by decide +kernel) rfl rfl rfl rfl ?_
    refine zV (by decide +kernel) rfl rfl rfl rfl ?_
    refine zV (by decide +kernel) rfl rfl rfl rfl ?_
    refine zW (by decide +kernel) rfl rfl rfl rfl rfl (by first | assumption | exact cload_of (by assumption) rfl) ?_
    refine zV (by decide +kernel) rfl rfl rfl rfl ?_
    refine zV (by decide +kernel) rfl rfl rfl rfl ?_
    refine zV (by decide +kernel) rfl rfl rfl (cbin_inc (T := tab) (h := h') (t := 3) (xo := .tmp 28) (yo := .const (.int .i64 1)) (by omega)) ?_
    refine zV (by decide +kernel) rfl rfl rfl (hp1) ?_
    refine zV (by decide +kernel) rfl rfl rfl (hq1 _ (Gr.refl _)) ?_
    refine zV (by decide +kernel) rfl rfl rfl (hp2) ?_
    refine zV (by decide +kernel) rfl rfl rfl (hq2 _ (Gr.refl _)) ?_
    refine zV (by decide +kernel) rfl rfl rfl rfl ?_
    refine zV (by decide +kernel) rfl rfl rfl rfl ?_
    refine zV (by decide +kernel) rfl rfl rfl (hp4) ?_
    refine zV (by decide +kernel) rfl rfl rfl (hq4 _ (Gr.refl _)) ?_
    refine zV (by decide +kernel) rfl rfl rfl (hp3) ?_
    refine zV (by decide +kernel) rfl rfl rfl (hq3 _ (Gr.refl _)) ?_
    refine zV (by decide +kernel) rfl rfl rfl (indexAddr_one (T := tab) (t := 26) (el := 3) (k := .i64) (i := j) (len := l.length + 1) (b := bs) (o := 0) (c := l.length + 1) rfl rfl (show j < l.length + 1 by omega)) ?_
    repeat refine zU (by decide +kernel) ?_
    refine PG.nil ?_
    refine pd1.store (cs' := (rowM (rst t.right.next l) l.length (j + 1)).set j (.int .i64 (stepTo t.right.next (rst t.right.next l (l.length - (j + 1))) k : Int))) 19 rfl (by kernel_rfl) rfl rfl rfl rfl rfl hcs rfl rfl rfl (by rw [Nat.zero_add]; exact lsplice_one _ _ _ (by rw [rowM_length]; omega)) hwf' fun h9 hwf9 u9 hc9 => ?_
    refine ⟨_, by (repeat (first | exact Reck.nil | (apply Reck.dropI; decide +kernel) | (apply Reck.keep; rfl) | (apply Reck.load; rfl; rfl; first | assumption | exact cload_of (by assumption) rfl) | (apply Reck.same; rfl) | (apply Reck.inc; rfl; rfl; rfl; omega))), ?_⟩
    repeat (first | refine zU (by decide +kernel) ?_ | refine zV (by decide +kernel) rfl rfl rfl rfl ?_ | refine zW (by decide +kernel) rfl rfl rfl rfl rfl (by first | assumption | exact cload_of (by assumption) rfl) ?_ | refine zX (by decide +kernel) rfl rfl rfl ?_)
    refine PG.nil ?_
    refine pd1.fin (by kernel_rfl) (by kernel_rfl) ?_
    rw [← hst, rowM_step _ _ _ (by omega)] at hc9
    repeat (first | refine zA ?_ | refine zB ?_ | refine zC ?_ | refine zD ?_ | refine zE ?_ | refine zF ?_ | refine zG rfl ?_ | refine zH ?_ | refine zI ?_ | refine zJ ?_ | refine zK ?_ | refine zL ?_ | refine zM ?_ | refine zN ?_ | refine zO ?_)
    refine zP rfl rfl rfl rfl rfl ?_
    refine zT rfl rfl rfl rfl rfl rfl (cbin_dec1 (by omega)) ?_
    refine zP rfl rfl rfl rfl rfl ?_
    refine pops.nil ?_
    exact .n ⟨_, j, rfl, ⟨rfl, rfl, rfl, rfl, trivial⟩, Nat.lt_succ_self j, by omega, g2.upd hbs u9, hc9⟩
  · have : m = 0 := by omega
    subst this
    repeat (first | refine zA ?_ | refine zB ?_ | refine zC ?_ | refine zD ?_ | refine zE ?_ | refine zF ?_ | refine zG rfl ?_ | refine zH ?_ | refine zI ?_ | refine zJ ?_ | refine zK ?_ | refine zL ?_ | refine zM ?_ | refine zN ?_ | refine zO ?_)
    repeat (first | refine zT rfl rfl rfl rfl rfl rfl (cbin_inc (by omega)) ?_ | refine zP rfl rfl rfl rfl rfl ?_ | refine zQ rfl rfl rfl ?_ | refine zR rfl rfl rfl rfl rfl (by first | assumption | exact cload_of (by assumption) rfl) ?_ | refine zS rfl rfl rfl rfl rfl rfl rfl rfl (by first | exact SlA.len (by assumption) rfl | exact Sl.map (by assumption) rfl | exact Sl.len (by assumption) rfl) ?_)
    refine pops.nil ?_
    repeat (first | refine zA ?_ | refine zB ?_ | refine zC ?_ | refine zD ?_ | refine zE ?_ | refine zF ?_ | refine zG rfl ?_ | refine zH ?_ | refine zI ?_ | refine zJ ?_ | refine zK ?_ | refine zL ?_ | refine zM ?_ | refine zN ?_ | refine zO ?_)
    refine pleave.r rfl ?_
    refine ⟨⟨_, rfl, ?_⟩, g02.trans g2⟩
    rw [rightS_row] at hcs
    exact Sl.one hcs rfl rfl rfl (by simp [rightS]; omega) (by simp [rightS])
end Go.Proofs.YtpcoponpfhnhlaaGreatDoor
set_option maxRecDepth 100000
set_option linter.unusedVariables false
set_option linter.unusedSimpArgs false
namespace Go.Proofs.YtpcoponpfhnhlaaGreatDoor
open Go.Cx
variable {w : World} {h : CH}
theorem fn_refDecide : tab.fn 62 = some Tryz.f62 := by kernel_rfl
theorem refDecide_calls {v vl : Value} {t : TabD} {l : List Int} (q : Int) (hv : TabV tab ks h v t) (hl : SlI tab ks.int h vl l) (hlen : TextsLt t.classes) (hll : l.length ≤ 1000) : CalF (X w) 62 [v, vl, .int .i64 q] h fun r h' => r = .ret (.tuple #[.int .i64 (DecideR t l q).1, .int .i64 (DecideR t l q).2]) ∧ Gr h h' := by
  refine CalF.wf fun hwf => ?_
  have hV := hv
  obtain ⟨c, a, x, y, x', y', rfl, ho, hcl, hac, hx, hy, hx', hy'⟩ := hv
  simp only [Bool.and_eq_true] at ho
  clear hcl hx hx'
  have llt := hl.lt
  have out : ¬ (0 ≤ q ∧ q ≤ (l.length : Int) ∧ UsableP t l) → DecideR t l q = (2, -1) := fun hn => by unfold DecideR; rw [tt_f hn]; rfl
  refine CalF.intro fn_refDecide rfl (Nat.le_of_ble_eq_true rfl) ?_
  repeat (first | refine zA ?_ | refine zB ?_ | refine zC ?_ | refine zD ?_ | refine zE ?_ | refine zF ?_ | refine zG rfl ?_ | refine zH ?_ | refine zI ?_ | refine zJ ?_ | refine zK ?_ | refine zL ?_ | refine zM ?_ | refine zN ?_ | refine zO ?_)
  refine pops.box (cs := [c, a, x, y, x', y']) rfl rfl rfl rfl (by simp [ho]) rfl rfl hwf fun b h1 hb hwf1 g1 hc => ?_
  replace hV := hV.gr hwf g1
  replace hl := Sl.gr hl hwf g1
  refine zP rfl rfl rfl rfl rfl ?_
  refine zP rfl rfl rfl rfl rfl ?_
  refine pops.nil ?_
  repeat (first | refine zA ?_ | refine zB ?_ | refine zC ?_ | refine zD ?_ | refine zE ?_ | refine zF ?_ | refine zG rfl ?_ | refine zH ?_ | refine zI ?_ | refine zJ ?_ | refine zK ?_ | refine zL ?_ | refine zM ?_ | refine zN ?_ | refine zO ?_)
  repeat (first | refine zT rfl rfl rfl rfl rfl rfl (cbin_inc (by omega)) ?_ | refine zP rfl rfl rfl rfl rfl ?_ | refine zQ rfl rfl rfl ?_ | refine zR rfl rfl rfl rfl rfl (by first | assumption | exact cload_of (by assumption) rfl) ?_ | refine zS rfl rfl rfl rfl rfl rfl rfl rfl (by first | exact SlA.len (by assumption) rfl | exact Sl.map (by assumption) rfl | exact Sl.len (by assumption) rfl) ?_)
  refine pops.callG rfl rfl rfl rfl rfl fn_refusable rfl rfl rfl (refusable_calls hV hl hlen) fun h2 hwf2 g2 => ?_
  replace hc := g2.at hwf1 hc
  replace hV := hV.gr hwf1 g2
  replace hl := Sl.gr hl hwf1 g2
  have g02 := g1.trans g2
  cases hU : tt (UsableP t l) with
  | false =>
    repeat (first | refine zT rfl rfl rfl rfl rfl rfl (cbin_inc (by omega)) ?_ | refine zP rfl rfl rfl rfl rfl ?_ | refine zQ rfl rfl rfl ?_ | refine zR rfl rfl rfl rfl rfl (by first | assumption | exact cload_of (by assumption) rfl) ?_ | refine zS rfl rfl rfl rfl rfl rfl rfl rfl (by first | exact SlA.len (by assumption) rfl | exact Sl.map (by assumption) rfl | exact Sl.len (by assumption) rfl) ?_)
    refine pops.nil ?_
    repeat (first | refine zA ?_ | refine zB ?_ | refine zC ?_ | refine zD ?_ | refine zE ?_ | refine zF ?_ | refine zG rfl ?_ | refine zH ?_ | refine zI ?_ | refine zJ ?_ | refine zK ?_ | refine zL ?_ | refine zM ?_ | refine zN ?_ | refine zO ?_)
    refine pcond.t rfl ?_
    repeat (first | refine zA ?_ | refine zB ?_ | refine zC ?_ | refine zD ?_ | refine zE ?_ | refine zF ?_ | refine zG rfl ?_ | refine zH ?_ | refine zI ?_ | refine zJ ?_ | refine zK ?_ | refine zL ?_ | refine zM ?_ | refine zN ?_ | refine zO ?_)
    repeat (first | refine zT rfl rfl rfl rfl rfl rfl (cbin_inc (by omega)) ?_ | refine zP rfl rfl rfl rfl rfl ?_ | refine zQ rfl rfl rfl ?_ | refine zR rfl rfl rfl rfl rfl (by first | assumption | exact cload_of (by assumption) rfl) ?_ | refine zS rfl rfl rfl rfl rfl rfl rfl rfl (by first | exact SlA.len (by assumption) rfl | exact Sl.map (by assumption) rfl | exact Sl.len (by assumption) rfl) ?_)
    refine pops.nil ?_
    repeat (first | refine zA ?_ | refine zB ?_ | refine zC ?_ | refine zD ?_ | refine zE ?_ | refine zF ?_ | refine zG rfl ?_ | refine zH ?_ | refine zI ?_ | refine zJ ?_ | refine zK ?_ | refine zL ?_ | refine zM ?_ | refine zN ?_ | refine zO ?_)
    refine pleave.r rfl ?_
    rw [out (fun hh => by rw [tt_t hh.2.2] at hU; cases hU)]
    exact ⟨rfl, g02⟩
  | true =>
  replace hU := tt_iff.1 hU
  repeat (first | refine zT rfl rfl rfl rfl rfl rfl (cbin_inc (by omega)) ?_ | refine zY rfl rfl rfl rfl rfl rfl ?_ | refine zQ rfl rfl rfl ?_ | refine zR rfl rfl rfl rfl rfl (by first | assumption | exact cload_of (by assumption) rfl) ?_ | refine zS rfl rfl rfl rfl rfl rfl rfl rfl (by first | exact SlA.len (by assumption) rfl | exact Sl.map (by assumption) rfl | exact Sl.len (by assumption) rfl) ?_)
  refine zZ rfl rfl rfl rfl rfl (fun q1 => ?_) (fun q1 => ?_)
  · repeat (first | refine zT rfl rfl rfl rfl rfl rfl (cbin_inc (by omega)) ?_ | refine zP rfl rfl rfl rfl rfl ?_ | refine zQ rfl rfl rfl ?_ | refine zR rfl rfl rfl rfl rfl (by first | assumption | exact cload_of (by assumption) rfl) ?_ | refine zS rfl rfl rfl rfl rfl rfl rfl rfl (by first | exact SlA.len (by assumption) rfl | exact Sl.map (by assumption) rfl | exact Sl.len (by assumption) rfl) ?_)
    refine pops.nil ?_
    repeat (first | refine zA ?_ | refine zB ?_ | refine zC ?_ | refine zD ?_ | refine zE ?_ | refine zF ?_ | refine zG rfl ?_ | refine zH ?_ | refine zI ?_ | refine zJ ?_ | refine zK ?_ | refine zL ?_ | refine zM ?_ | refine zN ?_ | refine zO ?_)
    refine pcond.t rfl ?_
    repeat (first | refine zA ?_ | refine zB ?_ | refine zC ?_ | refine zD ?_ | refine zE ?_ | refine zF ?_ | refine zG rfl ?_ | refine zH ?_ | refine zI ?_ | refine zJ ?_ | refine zK ?_ | refine zL ?_ | refine zM ?_ | refine zN ?_ | refine zO ?_)
    repeat (first | refine zT rfl rfl rfl rfl rfl rfl (cbin_inc (by omega)) ?_ | refine zP rfl rfl rfl rfl rfl ?_ | refine zQ rfl rfl rfl ?_ | refine zR rfl rfl rfl rfl rfl (by first | assumption | exact cload_of (by assumption) rfl) ?_ | refine zS rfl rfl rfl rfl rfl rfl rfl rfl (by first | exact SlA.len (by assumption) rfl | exact Sl.map (by assumption) rfl | exact Sl.len (by assumption) rfl) ?_)
    refine pops.nil ?_
    repeat (first | refine zA ?_ | refine zB ?_ | refine zC ?_ | refine zD ?_ | refine zE ?_ | refine zF ?_ | refine zG rfl ?_ | refine zH ?_ | refine zI ?_ | refine zJ ?_ | refine zK ?_ | refine zL ?_ | refine zM ?_ | refine zN ?_ | refine zO ?_)
    refine pleave.r rfl ?_
    simp at q1
    rw [out (by omega)]
    exact ⟨rfl, g02⟩
  repeat (first | refine zT rfl rfl rfl rfl rfl rfl (cbin_inc (by omega)) ?_ | refine zY rfl rfl rfl rfl rfl rfl ?_ | refine zQ rfl rfl rfl ?_ | refine zR rfl rfl rfl rfl rfl (by first | assumption | exact cload_of (by assumption) rfl) ?_ | refine zS rfl rfl rfl rfl rfl rfl rfl rfl (by first | exact SlA.len (by assumption) rfl | exact Sl.map (by assumption) rfl | exact Sl.len (by assumption) rfl) ?_)
  refine zZ rfl rfl rfl rfl rfl (fun q2 => ?_) (fun q2 => ?_)
  · repeat (first | refine zT rfl rfl rfl rfl rfl rfl (cbin_inc (by omega)) ?_ | refine zP rfl rfl rfl rfl rfl ?_ | refine zQ rfl rfl rfl ?_ | refine zR rfl rfl rfl rfl rfl (by first | assumption | exact cload_of (by assumption) rfl) ?_ | refine zS rfl rfl rfl rfl rfl rfl rfl rfl (by first | exact SlA.len (by assumption) rfl | exact Sl.map (by assumption) rfl | exact Sl.len (by assumption) rfl) ?_)
    refine pops.nil ?_
    repeat (first | refine zA ?_ | refine zB ?_ | refine zC ?_ | refine zD ?_ | refine zE ?_ | refine zF ?_ | refine zG rfl ?_ | refine zH ?_ | refine zI ?_ | refine zJ ?_ | refine zK ?_ | refine zL ?_ | refine zM ?_ | refine zN ?_ | refine zO ?_)
    refine pcond.t rfl ?_
    repeat (first | refine zA ?_ | refine zB ?_ | refine zC ?_ | refine zD ?_ | refine zE ?_ | refine zF ?_ | refine zG rfl ?_ | refine zH ?_ | refine zI ?_ | refine zJ ?_ | refine zK ?_ | refine zL ?_ | refine zM ?_ | refine zN ?_ | refine zO ?_)
    repeat (first | refine zT rfl rfl rfl rfl rfl rfl (cbin_inc (by omega)) ?_ | refine zP rfl rfl rfl rfl rfl ?_ | refine zQ rfl rfl rfl ?_ | refine zR rfl rfl rfl rfl rfl (by first | assumption | exact cload_of (by assumption) rfl) ?_ | refine zS rfl rfl rfl rfl rfl rfl rfl rfl (by first | exact SlA.len (by assumption) rfl | exact Sl.map (by assumption) rfl | exact Sl.len (by assumption) rfl) ?_)
    refine pops.nil ?_
    repeat (first | refine zA ?_ | refine zB ?_ | refine zC ?_ | refine zD ?_ | refine zE ?_ | refine zF ?_ | refine zG rfl ?_ | refine zH ?_ | refine zI ?_ | refine zJ ?_ | refine zK ?_ | refine zL ?_ | refine zM ?_ | refine zN ?_ | refine zO ?_)
    refine pleave.r rfl ?_
    simp at q2
    rw [out (by omega)]
    exact ⟨rfl, g02⟩
  simp at q1 q2
  obtain ⟨k, rfl⟩ : ∃ k : Nat, q = k := Int.eq_ofNat_of_zero_le q1
  have hk : k ≤ l.length := by omega
  have hres : DecideR t l k = decS t (st t.left.next l k) (rst t.right.next l (l.length - k)) := by
    unfold DecideR
    rw [tt_t (by exact ⟨by omega, by omega, hU⟩)]
    rfl
  have hs := st_ok hU.1.2.2.2.1 hU.2 k hk
  have hu := rst_ok hU.1.2.2.2.2 hU.2 (l.length - k) (by omega)
  obtain ⟨m, hm1, hm2, hm3⟩ := mark_ok hU.1.2.2.2.1 hs
  obtain ⟨rm, hr1, hr2, hr3⟩ := mark_ok hU.1.2.2.2.2 hu
  replace hy := hy.gr hwf g02
  replace hy' := hy'.gr hwf g02
  replace hac := Sl.gr hac hwf g02
  repeat (first | refine zT rfl rfl rfl rfl rfl rfl (cbin_inc (by omega)) ?_ | refine zP rfl rfl rfl rfl rfl ?_ | refine zQ rfl rfl rfl ?_ | refine zR rfl rfl rfl rfl rfl (by first | assumption | exact cload_of (by assumption) rfl) ?_ | refine zS rfl rfl rfl rfl rfl rfl rfl rfl (by first | exact SlA.len (by assumption) rfl | exact Sl.map (by assumption) rfl | exact Sl.len (by assumption) rfl) ?_)
  refine pops.nil ?_
  repeat (first | refine zA ?_ | refine zB ?_ | refine zC ?_ | refine zD ?_ | refine zE ?_ | refine zF ?_ | refine zG rfl ?_ | refine zH ?_ | refine zI ?_ | refine zJ ?_ | refine zK ?_ | refine zL ?_ | refine zM ?_ | refine zN ?_ | refine zO ?_)
  refine pcond.f rfl ?_
  repeat (first | refine zA ?_ | refine zB ?_ | refine zC ?_ | refine zD ?_ | refine zE ?_ | refine zF ?_ | refine zG rfl ?_ | refine zH ?_ | refine zI ?_ | refine zJ ?_ | refine zK ?_ | refine zL ?_ | refine zM ?_ | refine zN ?_ | refine zO ?_)
  refine PG.startA 24 16777215 _ rfl rfl rfl rfl ?_
  repeat (first | refine zU (by decide +kernel) ?_ | refine zV (by decide +kernel) rfl rfl rfl rfl ?_ | refine zW (by decide +kernel) rfl rfl rfl rfl rfl (by first | assumption | exact cload_of (by assumption) rfl) ?_ | refine zX (by decide +kernel) rfl rfl rfl ?_)
  refine PG.nil ?_
  refine pd1.callR 5 rfl (by kernel_rfl) rfl rfl rfl rfl rfl fn_refLeft rfl rfl rfl ((refLeft_calls hV hl hlen hll).monoW fun r h3 hwf3 hh => ?_)
  obtain ⟨⟨u1, rfl, hu1⟩, g3⟩ := hh
  unfold LeftR at hu1
  rw [tt_t hU] at hu1
  simp only [cond_true] at hu1
  replace hc := g3.at hwf2 hc
  replace hV := hV.gr hwf2 g3
  replace hl := Sl.gr hl hwf2 g3
  replace hy := hy.gr hwf2 g3
  replace hy' := hy'.gr hwf2 g3
  replace hac := Sl.gr hac hwf2 g3
  refine ⟨u1, rfl, _, by (repeat (first | exact Reck.nil | (apply Reck.dropI; decide +kernel) | (apply Reck.keep; rfl) | (apply Reck.load; rfl; rfl; first | assumption | exact cload_of (by assumption) rfl) | (apply Reck.same; rfl) | (apply Reck.inc; rfl; rfl; rfl; omega))), ?_⟩
  obtain ⟨p1, hp1, hq1⟩ := Sl.readM hu1 hwf3 (ts := 26) rfl (leftS_get hk) .i64
  obtain ⟨p2, um, hp2, hum, hq2⟩ := SlA.readG hy hwf3 (ts := 27) rfl hm1 .i64
  have hq1' : cload (X w).T h3 3 p1 = some (.int .i64 (st t.left.next l k : Int)) := hq1 _ (Gr.refl _)
  have hq2' : cload (X w).T h3 26 p2 = some um := hq2 _ (Gr.refl _)
  repeat refine zU (by decide +kernel) ?_
  refine zV (by decide +kernel) rfl rfl rfl (hp1) ?_
  refine zW (by decide +kernel) rfl rfl rfl rfl rfl (by first | assumption | exact cload_of (by assumption) rfl) ?_
  refine zV (by decide +kernel) rfl rfl rfl (hp2) ?_
  refine zW (by decide +kernel) rfl rfl rfl rfl rfl (by first | assumption | exact cload_of (by assumption) rfl) ?_
  repeat (first | refine zU (by decide +kernel) ?_ | refine zV (by decide +kernel) rfl rfl rfl rfl ?_ | refine zW (by decide +kernel) rfl rfl rfl rfl rfl (by first | assumption | exact cload_of (by assumption) rfl) ?_ | refine zX (by decide +kernel) rfl rfl rfl ?_)
  refine PG.nil ?_
  refine pd1.callR 16 rfl (by kernel_rfl) rfl rfl rfl rfl rfl fn_refRight rfl rfl rfl ((refRight_calls hV hl hlen hll).monoW fun r h4 hwf4 hh => ?_)
  obtain ⟨⟨u2, rfl, hu2⟩, g4⟩ := hh
  unfold RightR at hu2
  rw [tt_t hU] at hu2
  simp only [cond_true] at hu2
  replace hc := g4.at hwf3 hc
  replace hy' := hy'.gr hwf3 g4
  replace hac := Sl.gr hac hwf3 g4
  replace hum := Sl.gr hum hwf3 g4
  have hq1' : cload (X w).T h4 3 p1 = some (.int .i64 (st t.left.next l k : Int)) := hq1 _ g4
  have hq2' : cload (X w).T h4 26 p2 = some um := hq2 _ g4
  refine ⟨u2, rfl, _, by (repeat (first | exact Reck.nil | (apply Reck.dropI; decide +kernel) | (apply Reck.keep; rfl) | (apply Reck.load; rfl; rfl; first | assumption | exact cload_of (by assumption) rfl) | (apply Reck.same; rfl) | (apply Reck.inc; rfl; rfl; rfl; omega))), ?_⟩
  obtain ⟨p3, hp3, hq3⟩ := Sl.readM hu2 hwf4 (ts := 26) rfl (rightS_get hk) .i64
  obtain ⟨p4, urm, hp4, hurm, hq4⟩ := SlA.readG hy' hwf4 (ts := 27) rfl hr1 .i64
  have hq3' : cload (X w).T h4 3 p3 = some (.int .i64 (rst t.right.next l (l.length - k) : Int)) := hq3 _ (Gr.refl _)
  have hq4' : cload (X w).T h4 26 p4 = some urm := hq4 _ (Gr.refl _)
  repeat refine zU (by decide +kernel) ?_
  refine zV (by decide +kernel) rfl rfl rfl (hp3) ?_
  refine zW (by decide +kernel) rfl rfl rfl rfl rfl (by first | assumption | exact cload_of (by assumption) rfl) ?_
  refine zV (by decide +kernel) rfl rfl rfl (hp4) ?_
  refine zW (by decide +kernel) rfl rfl rfl rfl rfl (by first | assumption | exact cload_of (by assumption) rfl) ?_
  repeat (first | refine zU (by decide +kernel) ?_ | refine zV (by decide +kernel) rfl rfl rfl rfl ?_ | refine zW (by decide +kernel) rfl rfl rfl rfl rfl (by first | assumption | exact cload_of (by assumption) rfl) ?_ | refine zX (by decide +kernel) rfl rfl rfl ?_)
  refine PG.nil ?_
  refine pd1.finA (by kernel_rfl) (by decide +kernel) ?_
  clear hq1' hq2' hq3' hq4'
  have g04 := (g02.trans g3).trans g4
  have lm := hum.1
  rw [List.length_map] at lm
  have lrm := hurm.lt
  repeat (first | refine zA ?_ | refine zB ?_ | refine zC ?_ | refine zD ?_ | refine zE ?_ | refine zF ?_ | refine zG rfl ?_ | refine zH ?_ | refine zI ?_ | refine zJ ?_ | refine zK ?_ | refine zL ?_ | refine zM ?_ | refine zN ?_ | refine zO ?_)
  repeat (first | refine zT rfl rfl rfl rfl rfl rfl (cbin_inc (by omega)) ?_ | refine zP rfl rfl rfl rfl rfl ?_ | refine zQ rfl rfl rfl ?_ | refine zR rfl rfl rfl rfl rfl (by first | assumption | exact cload_of (by assumption) rfl) ?_ | refine zS rfl rfl rfl rfl rfl rfl rfl rfl (by first | exact SlA.len (by assumption) rfl | exact Sl.map (by assumption) rfl | exact Sl.len (by assumption) rfl) ?_)
  refine pops.nil ?_
  repeat (first | refine zA ?_ | refine zB ?_ | refine zC ?_ | refine zD ?_ | refine zE ?_ | refine zF ?_ | refine zG rfl ?_ | refine zH ?_ | refine zI ?_ | refine zJ ?_ | refine zK ?_ | refine zL ?_ | refine zM ?_ | refine zN ?_ | refine zO ?_)
  refine Loops.ind 7 (fun i : Nat => [(3, .pointer (some ⟨b, 0, none⟩)), (8, um), (9, urm), (10, .int .i64 (i : Nat))]) (fun i h' => i ≤ m.length ∧ h' = h4 ∧ ∀ (j : Nat) z, j < i → m[j]? = some z → decide (z ∈ rm) = false) (fun i => m.length - i) 0 (by decide) ⟨rfl, rfl, rfl, rfl, trivial⟩ ⟨Nat.zero_le _, rfl, all_none⟩ ?_
  rintro i z h' hwf' ⟨hi, rfl, hall⟩
  repeat (first | refine zA ?_ | refine zB ?_ | refine zC ?_ | refine zD ?_ | refine zE ?_ | refine zF ?_ | refine zG rfl ?_ | refine zH ?_ | refine zI ?_ | refine zJ ?_ | refine zK ?_ | refine zL ?_ | refine zM ?_ | refine zN ?_ | refine zO ?_)
  refine zP rfl rfl rfl rfl rfl ?_
  refine zP rfl rfl rfl rfl rfl ?_
  refine zS rfl rfl rfl rfl rfl rfl rfl rfl (Sl.map hum rfl) ?_
  refine zP rfl rfl rfl rfl rfl ?_
  refine pops.nil ?_
  repeat (first | refine zA ?_ | refine zB ?_ | refine zC ?_ | refine zD ?_ | refine zE ?_ | refine zF ?_ | refine zG rfl ?_ | refine zH ?_ | refine zI ?_ | refine zJ ?_ | refine zK ?_ | refine zL ?_ | refine zM ?_ | refine zN ?_ | refine zO ?_)
  refine pcond.d (p := (i : Int) < (m.length : Nat)) rfl (fun hlt => ?_) (fun hge => ?_)
  · obtain ⟨x0, hx0⟩ : ∃ q, m[i]? = some q := ⟨_, List.getElem?_eq_getElem (by omega)⟩
    obtain ⟨hx1, hx2⟩ := hm3 x0 (List.mem_of_getElem? hx0)
    obtain ⟨p5, hp5, hq5⟩ := Sl.readM hum hwf' (ts := 26) rfl hx0 .i64
    have hq5' : cload (X w).T h' 3 p5 = some (.int .i64 x0) := hq5 _ (Gr.refl _)
    repeat (first | refine zA ?_ | refine zB ?_ | refine zC ?_ | refine zD ?_ | refine zE ?_ | refine zF ?_ | refine zG rfl ?_ | refine zH ?_ | refine zI ?_ | refine zJ ?_ | refine zK ?_ | refine zL ?_ | refine zM ?_ | refine zN ?_ | refine zO ?_)
    repeat (first | refine zT rfl rfl rfl rfl rfl rfl (cbin_inc (by omega)) ?_ | refine zP rfl rfl rfl rfl rfl ?_ | refine zQ rfl rfl rfl ?_ | refine zR rfl rfl rfl rfl rfl (by first | assumption | exact cload_of (by assumption) rfl) ?_ | refine zS rfl rfl rfl rfl rfl rfl rfl rfl (by first | exact SlA.len (by assumption) rfl | exact Sl.map (by assumption) rfl | exact Sl.len (by assumption) rfl) ?_)
    refine pops.nil ?_
    repeat (first | refine zA ?_ | refine zB ?_ | refine zC ?_ | refine zD ?_ | refine zE ?_ | refine zF ?_ | refine zG rfl ?_ | refine zH ?_ | refine zI ?_ | refine zJ ?_ | refine zK ?_ | refine zL ?_ | refine zM ?_ | refine zN ?_ | refine zO ?_)
    refine Loops.ind 7 (fun k : Nat => [(3, .pointer (some ⟨b, 0, none⟩)), (8, um), (9, urm), (10, .int .i64 (i : Nat)), (11, .int .i64 (k : Nat))]) (fun k h'' => k ≤ rm.length ∧ h'' = h' ∧ ∀ (j : Nat) z, j < k → rm[j]? = some z → x0 ≠ z) (fun k => rm.length - k) 0 (by decide) ⟨rfl, rfl, rfl, rfl, rfl, trivial⟩ ⟨Nat.zero_le _, rfl, all_none⟩ ?_
    rintro k2 z2 h'' hwf'' ⟨hk2, rfl, hkall⟩
    repeat (first | refine zA ?_ | refine zB ?_ | refine zC ?_ | refine zD ?_ | refine zE ?_ | refine zF ?_ | refine zG rfl ?_ | refine zH ?_ | refine zI ?_ | refine zJ ?_ | refine zK ?_ | refine zL ?_ | refine zM ?_ | refine zN ?_ | refine zO ?_)
    repeat (first | refine zT rfl rfl rfl rfl rfl rfl (cbin_inc (by omega)) ?_ | refine zP rfl rfl rfl rfl rfl ?_ | refine zQ rfl rfl rfl ?_ | refine zR rfl rfl rfl rfl rfl (by first | assumption | exact cload_of (by assumption) rfl) ?_ | refine zS rfl rfl rfl rfl rfl rfl rfl rfl (by first | exact SlA.len (by assumption) rfl | exact Sl.map (by assumption) rfl | exact Sl.len (by assumption) rfl) ?_)
    refine pops.nil ?_
    repeat (first | refine zA ?_ | refine zB ?_ | refine zC ?_ | refine zD ?_ | refine zE ?_ | refine zF ?_ | refine zG rfl ?_ | refine zH ?_ | refine zI ?_ | refine zJ ?_ | refine zK ?_ | refine zL ?_ | refine zM ?_ | refine zN ?_ | refine zO ?_)
    refine pcond.d (p := (k2 : Int) < (rm.length : Nat)) rfl (fun hlt2 => ?_) (fun hge2 => ?_)
    · obtain ⟨y0, hy0⟩ : ∃ q, rm[k2]? = some q := ⟨_, List.getElem?_eq_getElem (by omega)⟩
      obtain ⟨p6, hp6, hq6⟩ := Sl.readM hurm hwf'' (ts := 26) rfl hy0 .i64
      have hq6' : cload (X w).T h'' 3 p6 = some (.int .i64 y0) := hq6 _ (Gr.refl _)
      repeat (first | refine zA ?_ | refine zB ?_ | refine zC ?_ | refine zD ?_ | refine zE ?_ | refine zF ?_ | refine zG rfl ?_ | refine zH ?_ | refine zI ?_ | refine zJ ?_ | refine zK ?_ | refine zL ?_ | refine zM ?_ | refine zN ?_ | refine zO ?_)
      refine PG.start _ rfl rfl ?_
      refine zV (by decide +kernel) rfl rfl rfl rfl ?_
      refine zV (by decide +kernel) rfl rfl rfl rfl ?_
      refine zV (by decide +kernel) rfl rfl rfl (hp5) ?_
      refine zW (by decide +kernel) rfl rfl rfl rfl rfl (by first | assumption | exact cload_of (by assumption) rfl) ?_
      refine zV (by decide +kernel) rfl rfl rfl rfl ?_
      refine zV (by decide +kernel) rfl rfl rfl rfl ?_
      refine zV (by decide +kernel) rfl rfl rfl (hp6) ?_
      refine zW (by decide +kernel) rfl rfl rfl rfl rfl (by first | assumption | exact cload_of (by assumption) rfl) ?_
      by_cases hxy : x0 = y0
      · subst hxy
        have hmem : decide (x0 ∈ rm) = true := decide_eq_true (List.mem_of_getElem? hy0)
        refine zV (by decide +kernel) rfl rfl rfl (congrArg (fun b => some (Value.bool b)) (decide_eq_true (rfl : x0 = x0))) ?_
        refine PG.nil (pd1.finA (by kernel_rfl) (by decide +kernel) ?_)
        obtain ⟨k3, rfl⟩ : ∃ k : Nat, x0 = k := Int.eq_ofNat_of_zero_le hx1
        obtain ⟨p7, hp7, hq7⟩ := Sl.readM hac hwf'' (ts := 26) rfl (i := k3) (by have := act_ok hx1 hx2; simpa using this) .i64
        have hq7' : cload (X w).T h'' 3 p7 = some (.int .i64 (actOf t k3)) := hq7 _ (Gr.refl _)
        repeat (first | refine zA ?_ | refine zB ?_ | refine zC ?_ | refine zD ?_ | refine zE ?_ | refine zF ?_ | refine zG rfl ?_ | refine zH ?_ | refine zI ?_ | refine zJ ?_ | refine zK ?_ | refine zL ?_ | refine zM ?_ | refine zN ?_ | refine zO ?_)
        refine pcond.t rfl ?_
        repeat (first | refine zA ?_ | refine zB ?_ | refine zC ?_ | refine zD ?_ | refine zE ?_ | refine zF ?_ | refine zG rfl ?_ | refine zH ?_ | refine zI ?_ | refine zJ ?_ | refine zK ?_ | refine zL ?_ | refine zM ?_ | refine zN ?_ | refine zO ?_)
        refine PG.start _ rfl rfl ?_
        refine zV (by decide +kernel) rfl rfl rfl rfl ?_
        refine zW (by decide +kernel) rfl rfl rfl rfl rfl (by first | assumption | exact cload_of (by assumption) rfl) ?_
        refine zV (by decide +kernel) rfl rfl rfl rfl ?_
        refine zV (by decide +kernel) rfl rfl rfl rfl ?_
        refine zV (by decide +kernel) rfl rfl rfl (hp5) ?_
        refine zW (by decide +kernel) rfl rfl rfl rfl rfl (by first | assumption | exact cload_of (by assumption) rfl) ?_
        refine zV (by decide +kernel) rfl rfl rfl (hp7) ?_
        refine zW (by decide +kernel) rfl rfl rfl rfl rfl (by first | assumption | exact cload_of (by assumption) rfl) ?_
        refine zV (by decide +kernel) rfl rfl rfl rfl ?_
        refine zV (by decide +kernel) rfl rfl rfl rfl ?_
        refine zV (by decide +kernel) rfl rfl rfl (hp5) ?_
        refine zW (by decide +kernel) rfl rfl rfl rfl rfl (by first | assumption | exact cload_of (by assumption) rfl) ?_
        repeat (first | refine zU (by decide +kernel) ?_ | refine zV (by decide +kernel) rfl rfl rfl rfl ?_ | refine zW (by decide +kernel) rfl rfl rfl rfl rfl (by first | assumption | exact cload_of (by assumption) rfl) ?_ | refine zX (by decide +kernel) rfl rfl rfl ?_)
        refine PG.nil ?_
        refine pd1.finA (by kernel_rfl) (by decide +kernel) ?_
        repeat (first | refine zA ?_ | refine zB ?_ | refine zC ?_ | refine zD ?_ | refine zE ?_ | refine zF ?_ | refine zG rfl ?_ | refine zH ?_ | refine zI ?_ | refine zJ ?_ | refine zK ?_ | refine zL ?_ | refine zM ?_ | refine zN ?_ | refine zO ?_)
        refine pleave.r rfl ?_
        refine ⟨?_, g04⟩
        have : decS t (st t.left.next l k) (rst t.right.next l (l.length - k)) = (actOf t k3, (k3 : Int)) := by
          unfold decS
          rw [hm2, hr2, find_first hall hx0 hmem]
        rw [hres, this]
      · refine zV (by decide +kernel) rfl rfl rfl (congrArg (fun b => some (Value.bool b)) (decide_eq_false hxy)) ?_
        refine PG.nil (pd1.finA (by kernel_rfl) (by decide +kernel) ?_)
        repeat (first | refine zA ?_ | refine zB ?_ | refine zC ?_ | refine zD ?_ | refine zE ?_ | refine zF ?_ | refine zG rfl ?_ | refine zH ?_ | refine zI ?_ | refine zJ ?_ | refine zK ?_ | refine zL ?_ | refine zM ?_ | refine zN ?_ | refine zO ?_)
        refine pcond.f rfl ?_
        repeat (first | refine zA ?_ | refine zB ?_ | refine zC ?_ | refine zD ?_ | refine zE ?_ | refine zF ?_ | refine zG rfl ?_ | refine zH ?_ | refine zI ?_ | refine zJ ?_ | refine zK ?_ | refine zL ?_ | refine zM ?_ | refine zN ?_ | refine zO ?_)
        repeat (first | refine zT rfl rfl rfl rfl rfl rfl (cbin_inc (by omega)) ?_ | refine zP rfl rfl rfl rfl rfl ?_ | refine zQ rfl rfl rfl ?_ | refine zR rfl rfl rfl rfl rfl (by first | assumption | exact cload_of (by assumption) rfl) ?_ | refine zS rfl rfl rfl rfl rfl rfl rfl rfl (by first | exact SlA.len (by assumption) rfl | exact Sl.map (by assumption) rfl | exact Sl.len (by assumption) rfl) ?_)
        refine pops.nil ?_
        refine .n ⟨_, k2 + 1, rfl, ⟨rfl, rfl, rfl, rfl, rfl, trivial⟩, (by show rm.length - (k2 + 1) < rm.length - k2; omega), by omega, rfl, all_next hkall hy0 hxy⟩
    · repeat (first | refine zA ?_ | refine zB ?_ | refine zC ?_ | refine zD ?_ | refine zE ?_ | refine zF ?_ | refine zG rfl ?_ | refine zH ?_ | refine zI ?_ | refine zJ ?_ | refine zK ?_ | refine zL ?_ | refine zM ?_ | refine zN ?_ | refine zO ?_)
      repeat (first | refine zT rfl rfl rfl rfl rfl rfl (cbin_inc (by omega)) ?_ | refine zP rfl rfl rfl rfl rfl ?_ | refine zQ rfl rfl rfl ?_ | refine zR rfl rfl rfl rfl rfl (by first | assumption | exact cload_of (by assumption) rfl) ?_ | refine zS rfl rfl rfl rfl rfl rfl rfl rfl (by first | exact SlA.len (by assumption) rfl | exact Sl.map (by assumption) rfl | exact Sl.len (by assumption) rfl) ?_)
      refine pops.nil ?_
      refine .n ⟨_, i + 1, rfl, ⟨rfl, rfl, rfl, rfl, trivial⟩, (by show m.length - (i + 1) < m.length - i; omega), by omega, rfl, all_next hall hx0 (decide_eq_false fun hmem => all_end hkall (by omega) x0 hmem rfl)⟩
  · repeat (first | refine zA ?_ | refine zB ?_ | refine zC ?_ | refine zD ?_ | refine zE ?_ | refine zF ?_ | refine zG rfl ?_ | refine zH ?_ | refine zI ?_ | refine zJ ?_ | refine zK ?_ | refine zL ?_ | refine zM ?_ | refine zN ?_ | refine zO ?_)
    repeat (first | refine zT rfl rfl rfl rfl rfl rfl (cbin_inc (by omega)) ?_ | refine zP rfl rfl rfl rfl rfl ?_ | refine zQ rfl rfl rfl ?_ | refine zR rfl rfl rfl rfl rfl (by first | assumption | exact cload_of (by assumption) rfl) ?_ | refine zS rfl rfl rfl rfl rfl rfl rfl rfl (by first | exact SlA.len (by assumption) rfl | exact Sl.map (by assumption) rfl | exact Sl.len (by assumption) rfl) ?_)
    refine pops.nil ?_
    repeat (first | refine zA ?_ | refine zB ?_ | refine zC ?_ | refine zD ?_ | refine zE ?_ | refine zF ?_ | refine zG rfl ?_ | refine zH ?_ | refine zI ?_ | refine zJ ?_ | refine zK ?_ | refine zL ?_ | refine zM ?_ | refine zN ?_ | refine zO ?_)
    refine pleave.r rfl ?_
    refine ⟨?_, g04⟩
    have : decS t (st t.left.next l k) (rst t.right.next l (l.length - k)) = (2, -1) := by
      unfold decS
      rw [hm2, hr2, find_no (all_end hall (by omega))]
    rw [hres, this]
end Go.Proofs.YtpcoponpfhnhlaaGreatDoor
set_option maxRecDepth 100000
set_option linter.unusedVariables false
set_option linter.unusedSimpArgs false
namespace Go.Proofs.YtpcoponpfhnhlaaGreatDoor
open Go.Cx
variable {w : World} {h : CH}
theorem fn_refActions : tab.fn 40 = some Tryz.f40 := by kernel_rfl
theorem refActions_calls {v vl : Value} {t : TabD} {l : List Int} (hv : TabV tab ks h v t) (hl : SlI tab ks.int h vl l) (hlen : TextsLt t.classes) (hll : l.length ≤ 1000) : CalF (X w) 40 [v, vl] h fun r h' => (∃ u, r = .ret u ∧ SlI tab ks.int h' u (ActionsR t l)) ∧ Gr h h' := by
  refine CalF.wf fun hwf => ?_
  have hV := hv
  obtain ⟨c, a, x, y, x', y', rfl, ho, hcl, hac, hx, hy, hx', hy'⟩ := hv
  simp only [Bool.and_eq_true] at ho
  clear hcl hac hx hy hx' hy'
  refine CalF.intro fn_refActions rfl (Nat.le_of_ble_eq_true rfl) ?_
  repeat (first | refine zA ?_ | refine zB ?_ | refine zC ?_ | refine zD ?_ | refine zE ?_ | refine zF ?_ | refine zG rfl ?_ | refine zH ?_ | refine zI ?_ | refine zJ ?_ | refine zK ?_ | refine zL ?_ | refine zM ?_ | refine zN ?_ | refine zO ?_)
  refine pops.box (cs := [c, a, x, y, x', y']) rfl rfl rfl rfl (by simp [ho]) rfl rfl hwf fun b h1 hb hwf1 g1 hc => ?_
  replace hV := hV.gr hwf g1
  replace hl := Sl.gr hl hwf g1
  refine zP rfl rfl rfl rfl rfl ?_
  refine pops.nil ?_
  repeat (first | refine zA ?_ | refine zB ?_ | refine zC ?_ | refine zD ?_ | refine zE ?_ | refine zF ?_ | refine zG rfl ?_ | refine zH ?_ | refine zI ?_ | refine zJ ?_ | refine zK ?_ | refine zL ?_ | refine zM ?_ | refine zN ?_ | refine zO ?_)
  repeat (first | refine zT rfl rfl rfl rfl rfl rfl (cbin_inc (by omega)) ?_ | refine zP rfl rfl rfl rfl rfl ?_ | refine zQ rfl rfl rfl ?_ | refine zR rfl rfl rfl rfl rfl (by first | assumption | exact cload_of (by assumption) rfl) ?_ | refine zS rfl rfl rfl rfl rfl rfl rfl rfl (by first | exact SlA.len (by assumption) rfl | exact Sl.map (by assumption) rfl | exact Sl.len (by assumption) rfl) ?_)
  refine pops.callG rfl rfl rfl rfl rfl fn_refusable rfl rfl rfl (refusable_calls hV hl hlen) fun h2 hwf2 g2 => ?_
  replace hc := g2.at hwf1 hc
  replace hV := hV.gr hwf1 g2
  replace hl := Sl.gr hl hwf1 g2
  have g02 := g1.trans g2
  unfold ActionsR
  cases hU : tt (UsableP t l) with
  | false =>
    repeat (first | refine zT rfl rfl rfl rfl rfl rfl (cbin_inc (by omega)) ?_ | refine zP rfl rfl rfl rfl rfl ?_ | refine zQ rfl rfl rfl ?_ | refine zR rfl rfl rfl rfl rfl (by first | assumption | exact cload_of (by assumption) rfl) ?_ | refine zS rfl rfl rfl rfl rfl rfl rfl rfl (by first | exact SlA.len (by assumption) rfl | exact Sl.map (by assumption) rfl | exact Sl.len (by assumption) rfl) ?_)
    refine pops.nil ?_
    repeat (first | refine zA ?_ | refine zB ?_ | refine zC ?_ | refine zD ?_ | refine zE ?_ | refine zF ?_ | refine zG rfl ?_ | refine zH ?_ | refine zI ?_ | refine zJ ?_ | refine zK ?_ | refine zL ?_ | refine zM ?_ | refine zN ?_ | refine zO ?_)
    refine pcond.t rfl ?_
    repeat (first | refine zA ?_ | refine zB ?_ | refine zC ?_ | refine zD ?_ | refine zE ?_ | refine zF ?_ | refine zG rfl ?_ | refine zH ?_ | refine zI ?_ | refine zJ ?_ | refine zK ?_ | refine zL ?_ | refine zM ?_ | refine zN ?_ | refine zO ?_)
    repeat (first | refine zT rfl rfl rfl rfl rfl rfl (cbin_inc (by omega)) ?_ | refine zP rfl rfl rfl rfl rfl ?_ | refine zQ rfl rfl rfl ?_ | refine zR rfl rfl rfl rfl rfl (by first | assumption | exact cload_of (by assumption) rfl) ?_ | refine zS rfl rfl rfl rfl rfl rfl rfl rfl (by first | exact SlA.len (by assumption) rfl | exact Sl.map (by assumption) rfl | exact Sl.len (by assumption) rfl) ?_)
    refine pops.nil ?_
    repeat (first | refine zA ?_ | refine zB ?_ | refine zC ?_ | refine zD ?_ | refine zE ?_ | refine zF ?_ | refine zG rfl ?_ | refine zH ?_ | refine zI ?_ | refine zJ ?_ | refine zK ?_ | refine zL ?_ | refine zM ?_ | refine zN ?_ | refine zO ?_)
    refine pleave.r rfl ?_
    exact ⟨⟨_, rfl, nil_ints⟩, g02⟩
  | true =>
  replace hU := tt_iff.1 hU
  repeat (first | refine zT rfl rfl rfl rfl rfl rfl (cbin_inc (by omega)) ?_ | refine zP rfl rfl rfl rfl rfl ?_ | refine zQ rfl rfl rfl ?_ | refine zR rfl rfl rfl rfl rfl (by first | assumption | exact cload_of (by assumption) rfl) ?_ | refine zS rfl rfl rfl rfl rfl rfl rfl rfl (by first | exact SlA.len (by assumption) rfl | exact Sl.map (by assumption) rfl | exact Sl.len (by assumption) rfl) ?_)
  refine pops.nil ?_
  repeat (first | refine zA ?_ | refine zB ?_ | refine zC ?_ | refine zD ?_ | refine zE ?_ | refine zF ?_ | refine zG rfl ?_ | refine zH ?_ | refine zI ?_ | refine zJ ?_ | refine zK ?_ | refine zL ?_ | refine zM ?_ | refine zN ?_ | refine zO ?_)
  refine pcond.f rfl ?_
  repeat (first | refine zA ?_ | refine zB ?_ | refine zC ?_ | refine zD ?_ | refine zE ?_ | refine zF ?_ | refine zG rfl ?_ | refine zH ?_ | refine zI ?_ | refine zJ ?_ | refine zK ?_ | refine zL ?_ | refine zM ?_ | refine zN ?_ | refine zO ?_)
  repeat (first | refine zT rfl rfl rfl rfl rfl rfl (cbin_inc (by omega)) ?_ | refine zP rfl rfl rfl rfl rfl ?_ | refine zQ rfl rfl rfl ?_ | refine zR rfl rfl rfl rfl rfl (by first | assumption | exact cload_of (by assumption) rfl) ?_ | refine zS rfl rfl rfl rfl rfl rfl rfl rfl (by first | exact SlA.len (by assumption) rfl | exact Sl.map (by assumption) rfl | exact Sl.len (by assumption) rfl) ?_)
  refine pops.nil ?_
  repeat (first | refine zA ?_ | refine zB ?_ | refine zC ?_ | refine zD ?_ | refine zE ?_ | refine zF ?_ | refine zG rfl ?_ | refine zH ?_ | refine zI ?_ | refine zJ ?_ | refine zK ?_ | refine zL ?_ | refine zM ?_ | refine zN ?_ | refine zO ?_)
  repeat (first | refine zT rfl rfl rfl rfl rfl rfl (cbin_inc (by omega)) ?_ | refine zP rfl rfl rfl rfl rfl ?_ | refine zQ rfl rfl rfl ?_ | refine zR rfl rfl rfl rfl rfl (by first | assumption | exact cload_of (by assumption) rfl) ?_ | refine zS rfl rfl rfl rfl rfl rfl rfl rfl (by first | exact SlA.len (by assumption) rfl | exact Sl.map (by assumption) rfl | exact Sl.len (by assumption) rfl) ?_)
  refine pops.nil ?_
  repeat (first | refine zA ?_ | refine zB ?_ | refine zC ?_ | refine zD ?_ | refine zE ?_ | refine zF ?_ | refine zG rfl ?_ | refine zH ?_ | refine zI ?_ | refine zJ ?_ | refine zK ?_ | refine zL ?_ | refine zM ?_ | refine zN ?_ | refine zO ?_)
  refine Loops.ind 6 (fun s : Nat × Value => [(1, vl), (2, .pointer (some ⟨b, 0, none⟩)), (5, s.2), (6, .int .i64 (s.1 : Nat))])
    (fun s h' => s.1 ≤ l.length + 1 ∧ Gr h2 h' ∧ ∃ b', h2.n ≤ b' ∧ Own h' s.2 b' ((List.range s.1).map fun i => Value.int .i64 (decS t (st t.left.next l i) (rst t.right.next l (l.length - i))).1))
    (fun s => l.length + 1 - s.1) (0, .slice none 0 0) (by decide) ⟨rfl, rfl, rfl, rfl, trivial⟩ ⟨Nat.zero_le _, Gr.refl _, h2.n, Nat.le_refl _, .inl ⟨rfl, rfl⟩⟩ ?_
  rintro ⟨i, vo⟩ z h' hwf' ⟨hi, g3, b', hb', hown⟩
  simp only at hi hown hb'
  replace hc := g3.at hwf2 hc
  replace hV := hV.gr hwf2 g3
  replace hl := Sl.gr hl hwf2 g3
  repeat (first | refine zA ?_ | refine zB ?_ | refine zC ?_ | refine zD ?_ | refine zE ?_ | refine zF ?_ | refine zG rfl ?_ | refine zH ?_ | refine zI ?_ | refine zJ ?_ | refine zK ?_ | refine zL ?_ | refine zM ?_ | refine zN ?_ | refine zO ?_)
  repeat (first | refine zT rfl rfl rfl rfl rfl rfl (cbin_inc (by omega)) ?_ | refine zP rfl rfl rfl rfl rfl ?_ | refine zQ rfl rfl rfl ?_ | refine zR rfl rfl rfl rfl rfl (by first | assumption | exact cload_of (by assumption) rfl) ?_ | refine zS rfl rfl rfl rfl rfl rfl rfl rfl (by first | exact SlA.len (by assumption) rfl | exact Sl.map (by assumption) rfl | exact Sl.len (by assumption) rfl) ?_)
  refine pops.nil ?_
  repeat (first | refine zA ?_ | refine zB ?_ | refine zC ?_ | refine zD ?_ | refine zE ?_ | refine zF ?_ | refine zG rfl ?_ | refine zH ?_ | refine zI ?_ | refine zJ ?_ | refine zK ?_ | refine zL ?_ | refine zM ?_ | refine zN ?_ | refine zO ?_)
  refine pcond.d (p := (i : Int) ≤ (l.length : Nat)) rfl (fun hlt => ?_) (fun hge => ?_)
  · have hil : i ≤ l.length := by omega
    have hD : DecideR t l (i : Int) = decS t (st t.left.next l i) (rst t.right.next l (l.length - i)) := by
      unfold DecideR
      rw [tt_t (by exact ⟨by omega, by omega, hU⟩)]
      rfl
    repeat (first | refine zA ?_ | refine zB ?_ | refine zC ?_ | refine zD ?_ | refine zE ?_ | refine zF ?_ | refine zG rfl ?_ | refine zH ?_ | refine zI ?_ | refine zJ ?_ | refine zK ?_ | refine zL ?_ | refine zM ?_ | refine zN ?_ | refine zO ?_)
    repeat (first | refine zT rfl rfl rfl rfl rfl rfl (cbin_inc (by omega)) ?_ | refine zP rfl rfl rfl rfl rfl ?_ | refine zQ rfl rfl rfl ?_ | refine zR rfl rfl rfl rfl rfl (by first | assumption | exact cload_of (by assumption) rfl) ?_ | refine zS rfl rfl rfl rfl rfl rfl rfl rfl (by first | exact SlA.len (by assumption) rfl | exact Sl.map (by assumption) rfl | exact Sl.len (by assumption) rfl) ?_)
    refine pops.callG rfl rfl rfl rfl rfl fn_refDecide rfl rfl rfl (refDecide_calls (i : Int) hV hl hlen hll) fun h5 hwf5 g5 => ?_
    rw [hD]
    replace hc := g5.at hwf' hc
    repeat (first | refine zT rfl rfl rfl rfl rfl rfl (cbin_inc (by omega)) ?_ | refine zP rfl rfl rfl rfl rfl ?_ | refine zQ rfl rfl rfl ?_ | refine zR rfl rfl rfl rfl rfl (by first | assumption | exact cload_of (by assumption) rfl) ?_ | refine zS rfl rfl rfl rfl rfl rfl rfl rfl (by first | exact SlA.len (by assumption) rfl | exact Sl.map (by assumption) rfl | exact Sl.len (by assumption) rfl) ?_)
    refine pops.nil ?_
    repeat (first | refine zA ?_ | refine zB ?_ | refine zC ?_ | refine zD ?_ | refine zE ?_ | refine zF ?_ | refine zG rfl ?_ | refine zH ?_ | refine zI ?_ | refine zJ ?_ | refine zK ?_ | refine zL ?_ | refine zM ?_ | refine zN ?_ | refine zO ?_)
    refine zP rfl rfl rfl rfl rfl ?_
    refine zP rfl rfl rfl rfl rfl ?_
    refine pops.buildSlice (cs := [.int .i64 (decS t (st t.left.next l i) (rst t.right.next l (l.length - i))).1]) rfl rfl rfl rfl rfl hwf5 fun b1 h6 hb1 hwf6 g6 hc6 => ?_
    refine pops.append1 rfl rfl rfl rfl rfl rfl rfl rfl rfl rfl rfl rfl rfl rfl rfl rfl rfl hwf6 (hown.gr hwf' (g5.trans g6)) rfl hc6 (by simp; omega) fun v' b2 h7 hwf7 ch hb2 hown7 => ?_
    have g7 : Gr h2 h7 := ((g3.trans g5).trans g6).chg hb' ch
    repeat (first | refine zT rfl rfl rfl rfl rfl rfl (cbin_inc (by omega)) ?_ | refine zP rfl rfl rfl rfl rfl ?_ | refine zQ rfl rfl rfl ?_ | refine zR rfl rfl rfl rfl rfl (by first | assumption | exact cload_of (by assumption) rfl) ?_ | refine zS rfl rfl rfl rfl rfl rfl rfl rfl (by first | exact SlA.len (by assumption) rfl | exact Sl.map (by assumption) rfl | exact Sl.len (by assumption) rfl) ?_)
    refine pops.nil ?_
    repeat (first | refine zA ?_ | refine zB ?_ | refine zC ?_ | refine zD ?_ | refine zE ?_ | refine zF ?_ | refine zG rfl ?_ | refine zH ?_ | refine zI ?_ | refine zJ ?_ | refine zK ?_ | refine zL ?_ | refine zM ?_ | refine zN ?_ | refine zO ?_)
    repeat (first | refine zT rfl rfl rfl rfl rfl rfl (cbin_inc (by omega)) ?_ | refine zP rfl rfl rfl rfl rfl ?_ | refine zQ rfl rfl rfl ?_ | refine zR rfl rfl rfl rfl rfl (by first | assumption | exact cload_of (by assumption) rfl) ?_ | refine zS rfl rfl rfl rfl rfl rfl rfl rfl (by first | exact SlA.len (by assumption) rfl | exact Sl.map (by assumption) rfl | exact Sl.len (by assumption) rfl) ?_)
    refine pops.nil ?_
    refine .n ⟨_, (i + 1, v'), rfl, ⟨rfl, rfl, rfl, rfl, trivial⟩, (by show l.length + 1 - (i + 1) < l.length + 1 - i; omega), (by show i + 1 ≤ l.length + 1; omega), g7, b2, Nat.le_trans ((g3.trans g5).trans g6).n hb2, ?_⟩
    show Own h7 v' b2 ((List.range (i + 1)).map _)
    rw [List.range_succ, List.map_append]
    exact hown7
  · repeat (first | refine zA ?_ | refine zB ?_ | refine zC ?_ | refine zD ?_ | refine zE ?_ | refine zF ?_ | refine zG rfl ?_ | refine zH ?_ | refine zI ?_ | refine zJ ?_ | refine zK ?_ | refine zL ?_ | refine zM ?_ | refine zN ?_ | refine zO ?_)
    have hi' : i = l.length + 1 := by omega
    subst hi'
    repeat (first | refine zT rfl rfl rfl rfl rfl rfl (cbin_inc (by omega)) ?_ | refine zP rfl rfl rfl rfl rfl ?_ | refine zQ rfl rfl rfl ?_ | refine zR rfl rfl rfl rfl rfl (by first | assumption | exact cload_of (by assumption) rfl) ?_ | refine zS rfl rfl rfl rfl rfl rfl rfl rfl (by first | exact SlA.len (by assumption) rfl | exact Sl.map (by assumption) rfl | exact Sl.len (by assumption) rfl) ?_)
    refine pops.nil ?_
    repeat (first | refine zA ?_ | refine zB ?_ | refine zC ?_ | refine zD ?_ | refine zE ?_ | refine zF ?_ | refine zG rfl ?_ | refine zH ?_ | refine zI ?_ | refine zJ ?_ | refine zK ?_ | refine zL ?_ | refine zM ?_ | refine zN ?_ | refine zO ?_)
    refine pleave.r rfl ?_
    refine ⟨⟨vo, rfl, ?_⟩, g02.trans g3⟩
    show Sl _ _ _ _ (List.map _ (List.map _ _))
    rw [List.map_map]
    exact hown.sl rfl rfl rfl (by simp; omega)
end Go.Proofs.YtpcoponpfhnhlaaGreatDoor
set_option maxRecDepth 100000
set_option linter.unusedVariables false
set_option linter.unusedSimpArgs false
namespace Go.Proofs.YtpcoponpfhnhlaaGreatDoor
open Go.Cx
variable {w : World} {h : CH}
theorem fn_named10c : tab.fn 103 = some Tryz.f103 := by kernel_rfl
theorem named10c_calls (c : Int) : CalF (X w) 103 [.int .i32 c] h fun r h' => r = .ret (.bool (!letterB c)) ∧ Gr h h' := by
  refine CalF.intro fn_named10c rfl (Nat.le_of_ble_eq_true rfl) ?_
  repeat (first | refine zA ?_ | refine zB ?_ | refine zC ?_ | refine zD ?_ | refine zE ?_ | refine zF ?_ | refine zG rfl ?_ | refine zH ?_ | refine zI ?_ | refine zJ ?_ | refine zK ?_ | refine zL ?_ | refine zM ?_ | refine zN ?_ | refine zO ?_)
  refine zP rfl rfl rfl rfl rfl ?_
  refine pops.nil ?_
  repeat (first | refine zA ?_ | refine zB ?_ | refine zC ?_ | refine zD ?_ | refine zE ?_ | refine zF ?_ | refine zG rfl ?_ | refine zH ?_ | refine zI ?_ | refine zJ ?_ | refine zK ?_ | refine zL ?_ | refine zM ?_ | refine zN ?_ | refine zO ?_)
  repeat' (first | refine zZ rfl rfl rfl rfl rfl (fun _ => ?_) (fun _ => ?_) | refine zP rfl rfl rfl rfl rfl ?_ | refine zQ rfl rfl rfl ?_)
  all_goals (refine pops.nil ?_)
  all_goals (repeat (first | refine zA ?_ | refine zB ?_ | refine zC ?_ | refine zD ?_ | refine zE ?_ | refine zF ?_ | refine zG rfl ?_ | refine zH ?_ | refine zI ?_ | refine zJ ?_ | refine zK ?_ | refine zL ?_ | refine zM ?_ | refine zN ?_ | refine zO ?_))
  all_goals (refine pleave.r rfl ?_)
  all_goals (refine ⟨?_, Gr.refl h⟩)
  all_goals (congr 2; simp_all [letterB]; try omega)
theorem fn_indexFuncS : tab.fn 152 = some Tryz.f152 := by kernel_rfl
theorem indexFuncS_calls {s : ByteArray} {f : FuncId} {fn : Func} {q : Int → Bool} (hf : tab.fn f = some fn) (hq : ∀ c : Int, 128 ≤ c → q c = true) (hl : s.data.toList.length < 9223372036854775808)
    (hp : ∀ (c : Int) (h' : CH), CalF (X w) f [.int .i32 c] h' fun r h'' => r = .ret (.bool (q c)) ∧ Gr h' h'') :
    CalF (X w) 152 [.string s, .func (.func f) #[] #[], .bool true] h fun r h' => (∃ z : Int, r = .ret (.int .i64 z) ∧ decide (0 ≤ z) = !(s.data.toList.all fun c => !q (c.toNat : Int))) ∧ Gr h h' := by
  refine CalF.wf fun hwf => ?_
  refine CalF.intro fn_indexFuncS rfl (Nat.le_of_ble_eq_true rfl) ?_
  repeat (first | refine zA ?_ | refine zB ?_ | refine zC ?_ | refine zD ?_ | refine zE ?_ | refine zF ?_ | refine zG rfl ?_ | refine zH ?_ | refine zI ?_ | refine zJ ?_ | refine zK ?_ | refine zL ?_ | refine zM ?_ | refine zN ?_ | refine zO ?_)
  refine zP rfl rfl rfl rfl rfl ?_
  refine pops.nil ?_
  repeat (first | refine zA ?_ | refine zB ?_ | refine zC ?_ | refine zD ?_ | refine zE ?_ | refine zF ?_ | refine zG rfl ?_ | refine zH ?_ | refine zI ?_ | refine zJ ?_ | refine zK ?_ | refine zL ?_ | refine zM ?_ | refine zN ?_ | refine zO ?_)
  refine zP rfl rfl rfl rfl rfl ?_
  refine pops.range rfl rfl rfl rfl rfl rfl hwf fun b h1 hb hwf1 g1 hg => ?_
  refine pops.nil ?_
  repeat (first | refine zA ?_ | refine zB ?_ | refine zC ?_ | refine zD ?_ | refine zE ?_ | refine zF ?_ | refine zG rfl ?_ | refine zH ?_ | refine zI ?_ | refine zJ ?_ | refine zK ?_ | refine zL ?_ | refine zM ?_ | refine zN ?_ | refine zO ?_)
  refine Loops.ind 5 (fun i : Nat => [(1, .func (.func f) #[] #[]), (2, .bool true), (10, .pointer (some ⟨b, 0, none⟩))]) (fun i h' => i ≤ s.data.toList.length ∧ Gr h h' ∧ h'.get b = some (.iter s i) ∧ ∀ (j : Nat) c, j < i → s.data.toList[j]? = some c → (!q (c.toNat : Int)) = true) (fun i => s.data.toList.length - i) 0 (by decide) ⟨rfl, rfl, rfl, trivial⟩ ⟨Nat.zero_le _, g1, hg, all_none⟩ ?_
  clear hg
  rintro i z h' hwf' ⟨hi, g, hg, hall⟩
  repeat (first | refine zA ?_ | refine zB ?_ | refine zC ?_ | refine zD ?_ | refine zE ?_ | refine zF ?_ | refine zG rfl ?_ | refine zH ?_ | refine zI ?_ | refine zJ ?_ | refine zK ?_ | refine zL ?_ | refine zM ?_ | refine zN ?_ | refine zO ?_)
  rcases Nat.lt_or_ge i s.data.toList.length with hlt | hge
  · obtain ⟨c, hc⟩ : ∃ c, s.data.toList[i]? = some c := ⟨_, List.getElem?_eq_getElem hlt⟩
    rcases Nat.lt_or_ge c.toNat 128 with ha | ha
    · refine pops.nextA rfl rfl rfl rfl rfl hg hc ha hwf' fun h2 hwf2 u2 hg2 => ?_
      have g2 := g.upd hb u2
      refine zP rfl rfl rfl rfl rfl ?_
      refine pops.nil ?_
      repeat (first | refine zA ?_ | refine zB ?_ | refine zC ?_ | refine zD ?_ | refine zE ?_ | refine zF ?_ | refine zG rfl ?_ | refine zH ?_ | refine zI ?_ | refine zJ ?_ | refine zK ?_ | refine zL ?_ | refine zM ?_ | refine zN ?_ | refine zO ?_)
      refine pcond.t rfl ?_
      repeat (first | refine zA ?_ | refine zB ?_ | refine zC ?_ | refine zD ?_ | refine zE ?_ | refine zF ?_ | refine zG rfl ?_ | refine zH ?_ | refine zI ?_ | refine zJ ?_ | refine zK ?_ | refine zL ?_ | refine zM ?_ | refine zN ?_ | refine zO ?_)
      repeat (first | refine zT rfl rfl rfl rfl rfl rfl (cbin_inc (by omega)) ?_ | refine zP rfl rfl rfl rfl rfl ?_ | refine zQ rfl rfl rfl ?_ | refine zR rfl rfl rfl rfl rfl (by first | assumption | exact cload_of (by assumption) rfl) ?_ | refine zS rfl rfl rfl rfl rfl rfl rfl rfl (by first | exact SlA.len (by assumption) rfl | exact Sl.map (by assumption) rfl | exact Sl.len (by assumption) rfl) ?_)
      refine pops.nil ?_
      repeat (first | refine zA ?_ | refine zB ?_ | refine zC ?_ | refine zD ?_ | refine zE ?_ | refine zF ?_ | refine zG rfl ?_ | refine zH ?_ | refine zI ?_ | refine zJ ?_ | refine zK ?_ | refine zL ?_ | refine zM ?_ | refine zN ?_ | refine zO ?_)
      refine zP rfl rfl rfl rfl rfl ?_
      refine zP rfl rfl rfl rfl rfl ?_
      refine pops.callG rfl rfl rfl rfl rfl hf rfl rfl rfl (hp _ h2) fun h3 hwf3 g3 => ?_
      cases hqc : q (c.toNat : Int) with
      | true =>
        repeat (first | refine zT rfl rfl rfl rfl rfl rfl (cbin_inc (by omega)) ?_ | refine zP rfl rfl rfl rfl rfl ?_ | refine zQ rfl rfl rfl ?_ | refine zR rfl rfl rfl rfl rfl (by first | assumption | exact cload_of (by assumption) rfl) ?_ | refine zS rfl rfl rfl rfl rfl rfl rfl rfl (by first | exact SlA.len (by assumption) rfl | exact Sl.map (by assumption) rfl | exact Sl.len (by assumption) rfl) ?_)
        refine pops.nil ?_
        repeat (first | refine zA ?_ | refine zB ?_ | refine zC ?_ | refine zD ?_ | refine zE ?_ | refine zF ?_ | refine zG rfl ?_ | refine zH ?_ | refine zI ?_ | refine zJ ?_ | refine zK ?_ | refine zL ?_ | refine zM ?_ | refine zN ?_ | refine zO ?_)
        refine pcond.t rfl ?_
        repeat (first | refine zA ?_ | refine zB ?_ | refine zC ?_ | refine zD ?_ | refine zE ?_ | refine zF ?_ | refine zG rfl ?_ | refine zH ?_ | refine zI ?_ | refine zJ ?_ | refine zK ?_ | refine zL ?_ | refine zM ?_ | refine zN ?_ | refine zO ?_)
        repeat (first | refine zT rfl rfl rfl rfl rfl rfl (cbin_inc (by omega)) ?_ | refine zP rfl rfl rfl rfl rfl ?_ | refine zQ rfl rfl rfl ?_ | refine zR rfl rfl rfl rfl rfl (by first | assumption | exact cload_of (by assumption) rfl) ?_ | refine zS rfl rfl rfl rfl rfl rfl rfl rfl (by first | exact SlA.len (by assumption) rfl | exact Sl.map (by assumption) rfl | exact Sl.len (by assumption) rfl) ?_)
        refine pops.nil ?_
        repeat (first | refine zA ?_ | refine zB ?_ | refine zC ?_ | refine zD ?_ | refine zE ?_ | refine zF ?_ | refine zG rfl ?_ | refine zH ?_ | refine zI ?_ | refine zJ ?_ | refine zK ?_ | refine zL ?_ | refine zM ?_ | refine zN ?_ | refine zO ?_)
        refine pleave.r rfl ?_
        refine ⟨⟨_, rfl, ?_⟩, g2.trans g3⟩
        have : (s.data.toList.all fun c => !q (c.toNat : Int)) = false := by rw [List.all_eq_false]; exact ⟨c, List.mem_of_getElem? hc, by simp [hqc]⟩
        rw [this]
        exact decide_eq_true (by omega)
      | false =>
        repeat (first | refine zT rfl rfl rfl rfl rfl rfl (cbin_inc (by omega)) ?_ | refine zP rfl rfl rfl rfl rfl ?_ | refine zQ rfl rfl rfl ?_ | refine zR rfl rfl rfl rfl rfl (by first | assumption | exact cload_of (by assumption) rfl) ?_ | refine zS rfl rfl rfl rfl rfl rfl rfl rfl (by first | exact SlA.len (by assumption) rfl | exact Sl.map (by assumption) rfl | exact Sl.len (by assumption) rfl) ?_)
        refine pops.nil ?_
        repeat (first | refine zA ?_ | refine zB ?_ | refine zC ?_ | refine zD ?_ | refine zE ?_ | refine zF ?_ | refine zG rfl ?_ | refine zH ?_ | refine zI ?_ | refine zJ ?_ | refine zK ?_ | refine zL ?_ | refine zM ?_ | refine zN ?_ | refine zO ?_)
        refine pcond.f rfl ?_
        repeat (first | refine zA ?_ | refine zB ?_ | refine zC ?_ | refine zD ?_ | refine zE ?_ | refine zF ?_ | refine zG rfl ?_ | refine zH ?_ | refine zI ?_ | refine zJ ?_ | refine zK ?_ | refine zL ?_ | refine zM ?_ | refine zN ?_ | refine zO ?_)
        refine ⟨_, i + 1, rfl, ⟨rfl, rfl, rfl, trivial⟩, (by show s.data.toList.length - (i + 1) < s.data.toList.length - i; omega), by omega, g2.trans g3, g3.at hwf2 hg2, all_next hall hc (by rw [hqc]; rfl)⟩
    · refine pops.nextU rfl rfl rfl rfl rfl hg hc ha hwf' fun h2 p2 hwf2 u2 hg2 => ?_
      have g2 := g.upd hb u2
      have hd := decode_big hc ha
      refine zP rfl rfl rfl rfl rfl ?_
      refine pops.nil ?_
      repeat (first | refine zA ?_ | refine zB ?_ | refine zC ?_ | refine zD ?_ | refine zE ?_ | refine zF ?_ | refine zG rfl ?_ | refine zH ?_ | refine zI ?_ | refine zJ ?_ | refine zK ?_ | refine zL ?_ | refine zM ?_ | refine zN ?_ | refine zO ?_)
      refine pcond.t rfl ?_
      repeat (first | refine zA ?_ | refine zB ?_ | refine zC ?_ | refine zD ?_ | refine zE ?_ | refine zF ?_ | refine zG rfl ?_ | refine zH ?_ | refine zI ?_ | refine zJ ?_ | refine zK ?_ | refine zL ?_ | refine zM ?_ | refine zN ?_ | refine zO ?_)
      repeat (first | refine zT rfl rfl rfl rfl rfl rfl (cbin_inc (by omega)) ?_ | refine zP rfl rfl rfl rfl rfl ?_ | refine zQ rfl rfl rfl ?_ | refine zR rfl rfl rfl rfl rfl (by first | assumption | exact cload_of (by assumption) rfl) ?_ | refine zS rfl rfl rfl rfl rfl rfl rfl rfl (by first | exact SlA.len (by assumption) rfl | exact Sl.map (by assumption) rfl | exact Sl.len (by assumption) rfl) ?_)
      refine pops.nil ?_
      repeat (first | refine zA ?_ | refine zB ?_ | refine zC ?_ | refine zD ?_ | refine zE ?_ | refine zF ?_ | refine zG rfl ?_ | refine zH ?_ | refine zI ?_ | refine zJ ?_ | refine zK ?_ | refine zL ?_ | refine zM ?_ | refine zN ?_ | refine zO ?_)
      refine zP rfl rfl rfl rfl rfl ?_
      refine zP rfl rfl rfl rfl rfl ?_
      refine pops.callG rfl rfl rfl rfl rfl hf rfl rfl rfl (hp _ h2) fun h3 hwf3 g3 => ?_
      rw [hq _ (by omega)]
      repeat (first | refine zT rfl rfl rfl rfl rfl rfl (cbin_inc (by omega)) ?_ | refine zP rfl rfl rfl rfl rfl ?_ | refine zQ rfl rfl rfl ?_ | refine zR rfl rfl rfl rfl rfl (by first | assumption | exact cload_of (by assumption) rfl) ?_ | refine zS rfl rfl rfl rfl rfl rfl rfl rfl (by first | exact SlA.len (by assumption) rfl | exact Sl.map (by assumption) rfl | exact Sl.len (by assumption) rfl) ?_)
      refine pops.nil ?_
      repeat (first | refine zA ?_ | refine zB ?_ | refine zC ?_ | refine zD ?_ | refine zE ?_ | refine zF ?_ | refine zG rfl ?_ | refine zH ?_ | refine zI ?_ | refine zJ ?_ | refine zK ?_ | refine zL ?_ | refine zM ?_ | refine zN ?_ | refine zO ?_)
      refine pcond.t rfl ?_
      repeat (first | refine zA ?_ | refine zB ?_ | refine zC ?_ | refine zD ?_ | refine zE ?_ | refine zF ?_ | refine zG rfl ?_ | refine zH ?_ | refine zI ?_ | refine zJ ?_ | refine zK ?_ | refine zL ?_ | refine zM ?_ | refine zN ?_ | refine zO ?_)
      repeat (first | refine zT rfl rfl rfl rfl rfl rfl (cbin_inc (by omega)) ?_ | refine zP rfl rfl rfl rfl rfl ?_ | refine zQ rfl rfl rfl ?_ | refine zR rfl rfl rfl rfl rfl (by first | assumption | exact cload_of (by assumption) rfl) ?_ | refine zS rfl rfl rfl rfl rfl rfl rfl rfl (by first | exact SlA.len (by assumption) rfl | exact Sl.map (by assumption) rfl | exact Sl.len (by assumption) rfl) ?_)
      refine pops.nil ?_
      repeat (first | refine zA ?_ | refine zB ?_ | refine zC ?_ | refine zD ?_ | refine zE ?_ | refine zF ?_ | refine zG rfl ?_ | refine zH ?_ | refine zI ?_ | refine zJ ?_ | refine zK ?_ | refine zL ?_ | refine zM ?_ | refine zN ?_ | refine zO ?_)
      refine pleave.r rfl ?_
      refine ⟨⟨_, rfl, ?_⟩, g2.trans g3⟩
      have : (s.data.toList.all fun c => !q (c.toNat : Int)) = false := by rw [List.all_eq_false]; exact ⟨c, List.mem_of_getElem? hc, by rw [hq _ (by omega)]; decide⟩
      rw [this]
      exact decide_eq_true (by omega)
  · refine pops.nextE rfl rfl rfl rfl rfl hg hge ?_
    refine zP rfl rfl rfl rfl rfl ?_
    refine pops.nil ?_
    repeat (first | refine zA ?_ | refine zB ?_ | refine zC ?_ | refine zD ?_ | refine zE ?_ | refine zF ?_ | refine zG rfl ?_ | refine zH ?_ | refine zI ?_ | refine zJ ?_ | refine zK ?_ | refine zL ?_ | refine zM ?_ | refine zN ?_ | refine zO ?_)
    refine pcond.f rfl ?_
    repeat (first | refine zA ?_ | refine zB ?_ | refine zC ?_ | refine zD ?_ | refine zE ?_ | refine zF ?_ | refine zG rfl ?_ | refine zH ?_ | refine zI ?_ | refine zJ ?_ | refine zK ?_ | refine zL ?_ | refine zM ?_ | refine zN ?_ | refine zO ?_)
    repeat (first | refine zT rfl rfl rfl rfl rfl rfl (cbin_inc (by omega)) ?_ | refine zP rfl rfl rfl rfl rfl ?_ | refine zQ rfl rfl rfl ?_ | refine zR rfl rfl rfl rfl rfl (by first | assumption | exact cload_of (by assumption) rfl) ?_ | refine zS rfl rfl rfl rfl rfl rfl rfl rfl (by first | exact SlA.len (by assumption) rfl | exact Sl.map (by assumption) rfl | exact Sl.len (by assumption) rfl) ?_)
    refine pops.nil ?_
    repeat (first | refine zA ?_ | refine zB ?_ | refine zC ?_ | refine zD ?_ | refine zE ?_ | refine zF ?_ | refine zG rfl ?_ | refine zH ?_ | refine zI ?_ | refine zJ ?_ | refine zK ?_ | refine zL ?_ | refine zM ?_ | refine zN ?_ | refine zO ?_)
    refine pleave.r rfl ?_
    refine ⟨⟨_, rfl, ?_⟩, g⟩
    have : (s.data.toList.all fun c => !q (c.toNat : Int)) = true := by rw [List.all_eq_true]; exact all_end hall hge
    rw [this]
    exact decide_eq_false (by omega)
theorem fn_indexFuncS' : tab.fn 131 = some Tryz.f131 := by kernel_rfl
theorem fn_containsFuncS : tab.fn 102 = some Tryz.f102 := by kernel_rfl
theorem IndexFuncS_calls {s : ByteArray} {f : FuncId} {fn : Func} {q : Int → Bool} (hf : tab.fn f = some fn) (hq : ∀ c : Int, 128 ≤ c → q c = true) (hl : s.data.toList.length < 9223372036854775808)
    (hp : ∀ (c : Int) (h' : CH), CalF (X w) f [.int .i32 c] h' fun r h'' => r = .ret (.bool (q c)) ∧ Gr h' h'') :
    CalF (X w) 131 [.string s, .func (.func f) #[] #[]] h fun r h' => (∃ z : Int, r = .ret (.int .i64 z) ∧ decide (0 ≤ z) = !(s.data.toList.all fun c => !q (c.toNat : Int))) ∧ Gr h h' := by
  refine CalF.intro fn_indexFuncS' rfl (Nat.le_of_ble_eq_true rfl) ?_
  repeat (first | refine zA ?_ | refine zB ?_ | refine zC ?_ | refine zD ?_ | refine zE ?_ | refine zF ?_ | refine zG rfl ?_ | refine zH ?_ | refine zI ?_ | refine zJ ?_ | refine zK ?_ | refine zL ?_ | refine zM ?_ | refine zN ?_ | refine zO ?_)
  refine zP rfl rfl rfl rfl rfl ?_
  refine pops.nil ?_
  repeat (first | refine zA ?_ | refine zB ?_ | refine zC ?_ | refine zD ?_ | refine zE ?_ | refine zF ?_ | refine zG rfl ?_ | refine zH ?_ | refine zI ?_ | refine zJ ?_ | refine zK ?_ | refine zL ?_ | refine zM ?_ | refine zN ?_ | refine zO ?_)
  repeat (first | refine zT rfl rfl rfl rfl rfl rfl (cbin_inc (by omega)) ?_ | refine zP rfl rfl rfl rfl rfl ?_ | refine zQ rfl rfl rfl ?_ | refine zR rfl rfl rfl rfl rfl (by first | assumption | exact cload_of (by assumption) rfl) ?_ | refine zS rfl rfl rfl rfl rfl rfl rfl rfl (by first | exact SlA.len (by assumption) rfl | exact Sl.map (by assumption) rfl | exact Sl.len (by assumption) rfl) ?_)
  refine pops.callV rfl rfl rfl rfl rfl fn_indexFuncS rfl rfl ((indexFuncS_calls hf hq hl hp).mono fun r h2 hh => ?_)
  obtain ⟨⟨z, rfl, hz⟩, g⟩ := hh
  refine ⟨_, rfl, ?_⟩
  repeat (first | refine zT rfl rfl rfl rfl rfl rfl (cbin_inc (by omega)) ?_ | refine zP rfl rfl rfl rfl rfl ?_ | refine zQ rfl rfl rfl ?_ | refine zR rfl rfl rfl rfl rfl (by first | assumption | exact cload_of (by assumption) rfl) ?_ | refine zS rfl rfl rfl rfl rfl rfl rfl rfl (by first | exact SlA.len (by assumption) rfl | exact Sl.map (by assumption) rfl | exact Sl.len (by assumption) rfl) ?_)
  refine pops.nil ?_
  repeat (first | refine zA ?_ | refine zB ?_ | refine zC ?_ | refine zD ?_ | refine zE ?_ | refine zF ?_ | refine zG rfl ?_ | refine zH ?_ | refine zI ?_ | refine zJ ?_ | refine zK ?_ | refine zL ?_ | refine zM ?_ | refine zN ?_ | refine zO ?_)
  refine pleave.r rfl ?_
  exact ⟨⟨z, rfl, hz⟩, g⟩
theorem containsFuncS_calls {s : ByteArray} {f : FuncId} {fn : Func} {q : Int → Bool} (hf : tab.fn f = some fn) (hq : ∀ c : Int, 128 ≤ c → q c = true) (hl : s.data.toList.length < 9223372036854775808)
    (hp : ∀ (c : Int) (h' : CH), CalF (X w) f [.int .i32 c] h' fun r h'' => r = .ret (.bool (q c)) ∧ Gr h' h'') :
    CalF (X w) 102 [.string s, .func (.func f) #[] #[]] h fun r h' => r = .ret (.bool (!(s.data.toList.all fun c => !q (c.toNat : Int)))) ∧ Gr h h' := by
  refine CalF.intro fn_containsFuncS rfl (Nat.le_of_ble_eq_true rfl) ?_
  repeat (first | refine zA ?_ | refine zB ?_ | refine zC ?_ | refine zD ?_ | refine zE ?_ | refine zF ?_ | refine zG rfl ?_ | refine zH ?_ | refine zI ?_ | refine zJ ?_ | refine zK ?_ | refine zL ?_ | refine zM ?_ | refine zN ?_ | refine zO ?_)
  refine zP rfl rfl rfl rfl rfl ?_
  refine pops.nil ?_
  repeat (first | refine zA ?_ | refine zB ?_ | refine zC ?_ | refine zD ?_ | refine zE ?_ | refine zF ?_ | refine zG rfl ?_ | refine zH ?_ | refine zI ?_ | refine zJ ?_ | refine zK ?_ | refine zL ?_ | refine zM ?_ | refine zN ?_ | refine zO ?_)
  repeat (first | refine zT rfl rfl rfl rfl rfl rfl (cbin_inc (by omega)) ?_ | refine zP rfl rfl rfl rfl rfl ?_ | refine zQ rfl rfl rfl ?_ | refine zR rfl rfl rfl rfl rfl (by first | assumption | exact cload_of (by assumption) rfl) ?_ | refine zS rfl rfl rfl rfl rfl rfl rfl rfl (by first | exact SlA.len (by assumption) rfl | exact Sl.map (by assumption) rfl | exact Sl.len (by assumption) rfl) ?_)
  refine pops.callV rfl rfl rfl rfl rfl fn_indexFuncS' rfl rfl ((IndexFuncS_calls hf hq hl hp).mono fun r h2 hh => ?_)
  obtain ⟨⟨z, rfl, hz⟩, g⟩ := hh
  refine ⟨_, rfl, ?_⟩
  repeat (first | refine zT rfl rfl rfl rfl rfl rfl (cbin_inc (by omega)) ?_ | refine zP rfl rfl rfl rfl rfl ?_ | refine zQ rfl rfl rfl ?_ | refine zR rfl rfl rfl rfl rfl (by first | assumption | exact cload_of (by assumption) rfl) ?_ | refine zS rfl rfl rfl rfl rfl rfl rfl rfl (by first | exact SlA.len (by assumption) rfl | exact Sl.map (by assumption) rfl | exact Sl.len (by assumption) rfl) ?_)
  refine pops.nil ?_
  repeat (first | refine zA ?_ | refine zB ?_ | refine zC ?_ | refine zD ?_ | refine zE ?_ | refine zF ?_ | refine zG rfl ?_ | refine zH ?_ | refine zI ?_ | refine zJ ?_ | refine zK ?_ | refine zL ?_ | refine zM ?_ | refine zN ?_ | refine zO ?_)
  refine pleave.r rfl ?_
  rw [← hz]
  exact ⟨rfl, g⟩
theorem letterB_big (c : Int) (hc : 128 ≤ c) : (!letterB c) = true := by
  unfold letterB
  rw [decide_eq_false (show ¬ c ≤ 90 by omega), decide_eq_false (show ¬ c ≤ 122 by omega), decide_eq_false (show ¬ c ≤ 57 by omega), decide_eq_false (show ¬ c = 95 by omega)]
  simp
theorem fn_pnamed : tab.fn 77 = some Tryz.f77 := by kernel_rfl
theorem pnamed_calls (s : ByteArray) (hl : s.data.toList.length < 9223372036854775808) : CalF (X w) 77 [.string s] h fun r h' => r = .ret (.bool (namedB s)) ∧ Gr h h' := by
  refine CalF.intro fn_pnamed rfl (Nat.le_of_ble_eq_true rfl) ?_
  repeat (first | refine zA ?_ | refine zB ?_ | refine zC ?_ | refine zD ?_ | refine zE ?_ | refine zF ?_ | refine zG rfl ?_ | refine zH ?_ | refine zI ?_ | refine zJ ?_ | refine zK ?_ | refine zL ?_ | refine zM ?_ | refine zN ?_ | refine zO ?_)
  refine zP rfl rfl rfl rfl rfl ?_
  refine pops.nil ?_
  repeat (first | refine zA ?_ | refine zB ?_ | refine zC ?_ | refine zD ?_ | refine zE ?_ | refine zF ?_ | refine zG rfl ?_ | refine zH ?_ | refine zI ?_ | refine zJ ?_ | refine zK ?_ | refine zL ?_ | refine zM ?_ | refine zN ?_ | refine zO ?_)
  repeat (first | refine zT rfl rfl rfl rfl rfl rfl (cbin_inc (by omega)) ?_ | refine zY rfl rfl rfl rfl rfl rfl ?_ | refine zQ rfl rfl rfl ?_ | refine zR rfl rfl rfl rfl rfl (by first | assumption | exact cload_of (by assumption) rfl) ?_ | refine zS rfl rfl rfl rfl rfl rfl rfl rfl (by first | exact SlA.len (by assumption) rfl | exact Sl.map (by assumption) rfl | exact Sl.len (by assumption) rfl) ?_)
  refine zZ rfl rfl rfl rfl rfl (fun q1 => ?_) (fun q1 => ?_)
  rotate_left
  · have q1 := of_decide_eq_false q1
    repeat (first | refine zT rfl rfl rfl rfl rfl rfl (cbin_inc (by omega)) ?_ | refine zP rfl rfl rfl rfl rfl ?_ | refine zQ rfl rfl rfl ?_ | refine zR rfl rfl rfl rfl rfl (by first | assumption | exact cload_of (by assumption) rfl) ?_ | refine zS rfl rfl rfl rfl rfl rfl rfl rfl (by first | exact SlA.len (by assumption) rfl | exact Sl.map (by assumption) rfl | exact Sl.len (by assumption) rfl) ?_)
    refine pops.nil ?_
    repeat (first | refine zA ?_ | refine zB ?_ | refine zC ?_ | refine zD ?_ | refine zE ?_ | refine zF ?_ | refine zG rfl ?_ | refine zH ?_ | refine zI ?_ | refine zJ ?_ | refine zK ?_ | refine zL ?_ | refine zM ?_ | refine zN ?_ | refine zO ?_)
    refine pleave.r rfl ?_
    refine ⟨?_, Gr.refl _⟩
    unfold namedB
    rw [decide_eq_false (show ¬ 1 ≤ s.data.toList.length by omega), Bool.and_false]
    rfl
  have q1 := of_decide_eq_true q1
  repeat (first | refine zT rfl rfl rfl rfl rfl rfl (cbin_inc (by omega)) ?_ | refine zY rfl rfl rfl rfl rfl rfl ?_ | refine zQ rfl rfl rfl ?_ | refine zR rfl rfl rfl rfl rfl (by first | assumption | exact cload_of (by assumption) rfl) ?_ | refine zS rfl rfl rfl rfl rfl rfl rfl rfl (by first | exact SlA.len (by assumption) rfl | exact Sl.map (by assumption) rfl | exact Sl.len (by assumption) rfl) ?_)
  refine zZ rfl rfl rfl rfl rfl (fun q2 => ?_) (fun q2 => ?_)
  rotate_left
  · have q2 := of_decide_eq_false q2
    repeat (first | refine zT rfl rfl rfl rfl rfl rfl (cbin_inc (by omega)) ?_ | refine zP rfl rfl rfl rfl rfl ?_ | refine zQ rfl rfl rfl ?_ | refine zR rfl rfl rfl rfl rfl (by first | assumption | exact cload_of (by assumption) rfl) ?_ | refine zS rfl rfl rfl rfl rfl rfl rfl rfl (by first | exact SlA.len (by assumption) rfl | exact Sl.map (by assumption) rfl | exact Sl.len (by assumption) rfl) ?_)
    refine pops.nil ?_
    repeat (first | refine zA ?_ | refine zB ?_ | refine zC ?_ | refine zD ?_ | refine zE ?_ | refine zF ?_ | refine zG rfl ?_ | refine zH ?_ | refine zI ?_ | refine zJ ?_ | refine zK ?_ | refine zL ?_ | refine zM ?_ | refine zN ?_ | refine zO ?_)
    refine pleave.r rfl ?_
    refine ⟨?_, Gr.refl _⟩
    unfold namedB
    rw [decide_eq_false (show ¬ s.data.toList.length ≤ 32 by omega), Bool.and_false]
  have q2 := of_decide_eq_true q2
  repeat (first | refine zT rfl rfl rfl rfl rfl rfl (cbin_inc (by omega)) ?_ | refine zP rfl rfl rfl rfl rfl ?_ | refine zQ rfl rfl rfl ?_ | refine zR rfl rfl rfl rfl rfl (by first | assumption | exact cload_of (by assumption) rfl) ?_ | refine zS rfl rfl rfl rfl rfl rfl rfl rfl (by first | exact SlA.len (by assumption) rfl | exact Sl.map (by assumption) rfl | exact Sl.len (by assumption) rfl) ?_)
  refine pops.callG rfl rfl rfl rfl rfl fn_containsFuncS rfl rfl rfl (containsFuncS_calls (q := fun c => !letterB c) fn_named10c letterB_big hl fun c h' => named10c_calls c) fun h2 hwf2 g2 => ?_
  repeat (first | refine zT rfl rfl rfl rfl rfl rfl (cbin_inc (by omega)) ?_ | refine zP rfl rfl rfl rfl rfl ?_ | refine zQ rfl rfl rfl ?_ | refine zR rfl rfl rfl rfl rfl (by first | assumption | exact cload_of (by assumption) rfl) ?_ | refine zS rfl rfl rfl rfl rfl rfl rfl rfl (by first | exact SlA.len (by assumption) rfl | exact Sl.map (by assumption) rfl | exact Sl.len (by assumption) rfl) ?_)
  refine pops.nil ?_
  repeat (first | refine zA ?_ | refine zB ?_ | refine zC ?_ | refine zD ?_ | refine zE ?_ | refine zF ?_ | refine zG rfl ?_ | refine zH ?_ | refine zI ?_ | refine zJ ?_ | refine zK ?_ | refine zL ?_ | refine zM ?_ | refine zN ?_ | refine zO ?_)
  refine pleave.r rfl ?_
  refine ⟨?_, g2⟩
  unfold namedB
  rw [decide_eq_true (show 1 ≤ s.data.toList.length by omega), decide_eq_true (show s.data.toList.length ≤ 32 by omega)]
  simp
theorem fn_cpvalid : tab.fn 78 = some Tryz.f78 := by kernel_rfl
theorem cpvalid_calls (c : Int) : CalF (X w) 78 [.int .i64 c] h fun r h' => r = .ret (.bool (decide (0 ≤ c) && decide (c ≤ 1114111))) ∧ Gr h h' := by
  refine CalF.intro fn_cpvalid rfl (Nat.le_of_ble_eq_true rfl) ?_
  repeat (first | refine zA ?_ | refine zB ?_ | refine zC ?_ | refine zD ?_ | refine zE ?_ | refine zF ?_ | refine zG rfl ?_ | refine zH ?_ | refine zI ?_ | refine zJ ?_ | refine zK ?_ | refine zL ?_ | refine zM ?_ | refine zN ?_ | refine zO ?_)
  refine zP rfl rfl rfl rfl rfl ?_
  refine pops.nil ?_
  repeat (first | refine zA ?_ | refine zB ?_ | refine zC ?_ | refine zD ?_ | refine zE ?_ | refine zF ?_ | refine zG rfl ?_ | refine zH ?_ | refine zI ?_ | refine zJ ?_ | refine zK ?_ | refine zL ?_ | refine zM ?_ | refine zN ?_ | refine zO ?_)
  repeat' (first | refine zZ rfl rfl rfl rfl rfl (fun _ => ?_) (fun _ => ?_) | refine zP rfl rfl rfl rfl rfl ?_ | refine zQ rfl rfl rfl ?_)
  all_goals (refine pops.nil ?_)
  all_goals (repeat (first | refine zA ?_ | refine zB ?_ | refine zC ?_ | refine zD ?_ | refine zE ?_ | refine zF ?_ | refine zG rfl ?_ | refine zH ?_ | refine zI ?_ | refine zJ ?_ | refine zK ?_ | refine zL ?_ | refine zM ?_ | refine zN ?_ | refine zO ?_))
  all_goals (refine pleave.r rfl ?_)
  all_goals (refine ⟨?_, Gr.refl h⟩)
  all_goals (congr 2; simp_all <;> (intros; omega))
theorem fn_inside : tab.fn 58 = some Tryz.f58 := by kernel_rfl
theorem inside_calls (x : SpanD) : CalF (X w) 58 [spanV x] h fun r h' => r = .ret (.bool (decide (0 ≤ x.lo ∧ x.lo ≤ x.hi ∧ x.hi ≤ 1114111))) ∧ Gr h h' := by
  refine CalF.wf fun hwf => ?_
  refine CalF.intro fn_inside rfl (Nat.le_of_ble_eq_true rfl) ?_
  repeat (first | refine zA ?_ | refine zB ?_ | refine zC ?_ | refine zD ?_ | refine zE ?_ | refine zF ?_ | refine zG rfl ?_ | refine zH ?_ | refine zI ?_ | refine zJ ?_ | refine zK ?_ | refine zL ?_ | refine zM ?_ | refine zN ?_ | refine zO ?_)
  refine pops.box (cs := [.int .i64 x.lo, .int .i64 x.hi, .int .i64 x.value]) rfl rfl rfl rfl rfl rfl rfl hwf fun b h1 hb hwf1 g1 hc => ?_
  refine zP rfl rfl rfl rfl rfl ?_
  refine pops.nil ?_
  repeat (first | refine zA ?_ | refine zB ?_ | refine zC ?_ | refine zD ?_ | refine zE ?_ | refine zF ?_ | refine zG rfl ?_ | refine zH ?_ | refine zI ?_ | refine zJ ?_ | refine zK ?_ | refine zL ?_ | refine zM ?_ | refine zN ?_ | refine zO ?_)
  repeat (first | refine zT rfl rfl rfl rfl rfl rfl (cbin_inc (by omega)) ?_ | refine zP rfl rfl rfl rfl rfl ?_ | refine zQ rfl rfl rfl ?_ | refine zR rfl rfl rfl rfl rfl (by first | assumption | exact cload_of (by assumption) rfl) ?_ | refine zS rfl rfl rfl rfl rfl rfl rfl rfl (by first | exact SlA.len (by assumption) rfl | exact Sl.map (by assumption) rfl | exact Sl.len (by assumption) rfl) ?_)
  refine pops.callG rfl rfl rfl rfl rfl fn_cpvalid rfl rfl rfl (cpvalid_calls x.lo) fun h2 hwf2 g2 => ?_
  replace hc := g2.at hwf1 hc
  cases hd : (decide (0 ≤ x.lo) && decide (x.lo ≤ 1114111)) with
  | false =>
    repeat (first | refine zT rfl rfl rfl rfl rfl rfl (cbin_inc (by omega)) ?_ | refine zP rfl rfl rfl rfl rfl ?_ | refine zQ rfl rfl rfl ?_ | refine zR rfl rfl rfl rfl rfl (by first | assumption | exact cload_of (by assumption) rfl) ?_ | refine zS rfl rfl rfl rfl rfl rfl rfl rfl (by first | exact SlA.len (by assumption) rfl | exact Sl.map (by assumption) rfl | exact Sl.len (by assumption) rfl) ?_)
    refine pops.nil ?_
    repeat (first | refine zA ?_ | refine zB ?_ | refine zC ?_ | refine zD ?_ | refine zE ?_ | refine zF ?_ | refine zG rfl ?_ | refine zH ?_ | refine zI ?_ | refine zJ ?_ | refine zK ?_ | refine zL ?_ | refine zM ?_ | refine zN ?_ | refine zO ?_)
    refine pleave.r rfl ?_
    refine ⟨?_, g1.trans g2⟩
    rw [decide_eq_false]
    simp at hd
    omega
  | true =>
    repeat (first | refine zT rfl rfl rfl rfl rfl rfl (cbin_inc (by omega)) ?_ | refine zP rfl rfl rfl rfl rfl ?_ | refine zQ rfl rfl rfl ?_ | refine zR rfl rfl rfl rfl rfl (by first | assumption | exact cload_of (by assumption) rfl) ?_ | refine zS rfl rfl rfl rfl rfl rfl rfl rfl (by first | exact SlA.len (by assumption) rfl | exact Sl.map (by assumption) rfl | exact Sl.len (by assumption) rfl) ?_)
    refine pops.callG rfl rfl rfl rfl rfl fn_cpvalid rfl rfl rfl (cpvalid_calls x.hi) fun h3 hwf3 g3 => ?_
    replace hc := g3.at hwf2 hc
    cases hd2 : (decide (0 ≤ x.hi) && decide (x.hi ≤ 1114111)) with
    | false =>
      repeat (first | refine zT rfl rfl rfl rfl rfl rfl (cbin_inc (by omega)) ?_ | refine zP rfl rfl rfl rfl rfl ?_ | refine zQ rfl rfl rfl ?_ | refine zR rfl rfl rfl rfl rfl (by first | assumption | exact cload_of (by assumption) rfl) ?_ | refine zS rfl rfl rfl rfl rfl rfl rfl rfl (by first | exact SlA.len (by assumption) rfl | exact Sl.map (by assumption) rfl | exact Sl.len (by assumption) rfl) ?_)
      refine pops.nil ?_
      repeat (first | refine zA ?_ | refine zB ?_ | refine zC ?_ | refine zD ?_ | refine zE ?_ | refine zF ?_ | refine zG rfl ?_ | refine zH ?_ | refine zI ?_ | refine zJ ?_ | refine zK ?_ | refine zL ?_ | refine zM ?_ | refine zN ?_ | refine zO ?_)
      refine pleave.r rfl ?_
      refine ⟨?_, (g1.trans g2).trans g3⟩
      rw [decide_eq_false]
      simp at hd hd2
      omega
    | true =>
      repeat (first | refine zT rfl rfl rfl rfl rfl rfl (cbin_inc (by omega)) ?_ | refine zP rfl rfl rfl rfl rfl ?_ | refine zQ rfl rfl rfl ?_ | refine zR rfl rfl rfl rfl rfl (by first | assumption | exact cload_of (by assumption) rfl) ?_ | refine zS rfl rfl rfl rfl rfl rfl rfl rfl (by first | exact SlA.len (by assumption) rfl | exact Sl.map (by assumption) rfl | exact Sl.len (by assumption) rfl) ?_)
      refine pops.nil ?_
      repeat (first | refine zA ?_ | refine zB ?_ | refine zC ?_ | refine zD ?_ | refine zE ?_ | refine zF ?_ | refine zG rfl ?_ | refine zH ?_ | refine zI ?_ | refine zJ ?_ | refine zK ?_ | refine zL ?_ | refine zM ?_ | refine zN ?_ | refine zO ?_)
      refine pleave.r rfl ?_
      refine ⟨?_, (g1.trans g2).trans g3⟩
      refine congrArg (fun b => CRes.ret (Value.bool b)) (?_ : decide (x.lo ≤ x.hi) = decide (0 ≤ x.lo ∧ x.lo ≤ x.hi ∧ x.hi ≤ 1114111))
      simp at hd hd2
      rw [Bool.eq_iff_iff, decide_eq_true_iff, decide_eq_true_iff]
      omega
end Go.Proofs.YtpcoponpfhnhlaaGreatDoor
set_option maxRecDepth 100000
set_option linter.unusedVariables false
set_option linter.unusedSimpArgs false
namespace Go.Proofs.YtpcoponpfhnhlaaGreatDoor
open Go.Cx
variable {w : World} {h : CH}
theorem fn_pindices : tab.fn 57 = some Tryz.f57 := by kernel_rfl
theorem pindices_calls {v : Value} {l : List ByteArray} (hv : SlS tab 9 h v l) (hlen : ∀ s, s ∈ l → s.data.toList.length < 9223372036854775808) :
    CalF (X w) 57 [v] h fun r h' => (∃ m, r = .ret (.tuple #[m, .bool (tt (NamesQ l))])) ∧ Gr h h' := by
  refine CalF.wf fun hwf => ?_
  have hlt := hv.lt
  refine CalF.intro fn_pindices rfl (Nat.le_of_ble_eq_true rfl) ?_
  repeat (first | refine zA ?_ | refine zB ?_ | refine zC ?_ | refine zD ?_ | refine zE ?_ | refine zF ?_ | refine zG rfl ?_ | refine zH ?_ | refine zI ?_ | refine zJ ?_ | refine zK ?_ | refine zL ?_ | refine zM ?_ | refine zN ?_ | refine zO ?_)
  repeat (first | refine zT rfl rfl rfl rfl rfl rfl (cbin_inc (by omega)) ?_ | refine zP rfl rfl rfl rfl rfl ?_ | refine zQ rfl rfl rfl ?_ | refine zR rfl rfl rfl rfl rfl (by first | assumption | exact cload_of (by assumption) rfl) ?_ | refine zS rfl rfl rfl rfl rfl rfl rfl rfl (by first | exact SlA.len (by assumption) rfl | exact Sl.map (by assumption) rfl | exact Sl.len (by assumption) rfl) ?_)
  refine pops.nil ?_
  repeat (first | refine zA ?_ | refine zB ?_ | refine zC ?_ | refine zD ?_ | refine zE ?_ | refine zF ?_ | refine zG rfl ?_ | refine zH ?_ | refine zI ?_ | refine zJ ?_ | refine zK ?_ | refine zL ?_ | refine zM ?_ | refine zN ?_ | refine zO ?_)
  repeat (first | refine zT rfl rfl rfl rfl rfl rfl (cbin_inc (by omega)) ?_ | refine zP rfl rfl rfl rfl rfl ?_ | refine zQ rfl rfl rfl ?_ | refine zR rfl rfl rfl rfl rfl (by first | assumption | exact cload_of (by assumption) rfl) ?_ | refine zS rfl rfl rfl rfl rfl rfl rfl rfl (by first | exact SlA.len (by assumption) rfl | exact Sl.map (by assumption) rfl | exact Sl.len (by assumption) rfl) ?_)
  refine pops.makeMap rfl rfl rfl rfl rfl hwf fun b h1 hb hwf1 g1 hc => ?_
  repeat (first | refine zT rfl rfl rfl rfl rfl rfl (cbin_inc (by omega)) ?_ | refine zP rfl rfl rfl rfl rfl ?_ | refine zQ rfl rfl rfl ?_ | refine zR rfl rfl rfl rfl rfl (by first | assumption | exact cload_of (by assumption) rfl) ?_ | refine zS rfl rfl rfl rfl rfl rfl rfl rfl (by first | exact SlA.len (by assumption) rfl | exact Sl.map (by assumption) rfl | exact Sl.len (by assumption) rfl) ?_)
  refine pops.nil ?_
  repeat (first | refine zA ?_ | refine zB ?_ | refine zC ?_ | refine zD ?_ | refine zE ?_ | refine zF ?_ | refine zG rfl ?_ | refine zH ?_ | refine zI ?_ | refine zJ ?_ | refine zK ?_ | refine zL ?_ | refine zM ?_ | refine zN ?_ | refine zO ?_)
  have hv1 := Sl.gr hv hwf g1
  repeat (first | refine zT rfl rfl rfl rfl rfl rfl (cbin_inc (by omega)) ?_ | refine zP rfl rfl rfl rfl rfl ?_ | refine zQ rfl rfl rfl ?_ | refine zR rfl rfl rfl rfl rfl (by first | assumption | exact cload_of (by assumption) rfl) ?_ | refine zS rfl rfl rfl rfl rfl rfl rfl rfl (by first | exact SlA.len (by assumption) rfl | exact Sl.map (by assumption) rfl | exact Sl.len (by assumption) rfl) ?_)
  refine pops.nil ?_
  repeat (first | refine zA ?_ | refine zB ?_ | refine zC ?_ | refine zD ?_ | refine zE ?_ | refine zF ?_ | refine zG rfl ?_ | refine zH ?_ | refine zI ?_ | refine zJ ?_ | refine zK ?_ | refine zL ?_ | refine zM ?_ | refine zN ?_ | refine zO ?_)
  refine Loops.ind 6 (fun i : Nat => [(0, v), (2, .map none), (3, .bool false), (4, .map (some b)), (12, v), (13, .int .i64 (l.length : Nat)), (14, .int .i64 (i : Nat))])
    (fun i h' => i ≤ l.length ∧ Gr h h' ∧ (∃ es : List (ByteArray × Value), es.map (·.1) = l.take i ∧ h'.get b = some (.map (mkE 0 es) es.length)) ∧ (∀ (j : Nat) s, j < i → l[j]? = some s → namedB s = true) ∧ ∀ (j k : Nat) x y, j < k → k < i → l[j]? = some x → l[k]? = some y → bytesBeq x.data.toList y.data.toList = false)
    (fun i => l.length - i) 0 (by decide) ⟨rfl, rfl, rfl, rfl, rfl, rfl, rfl, trivial⟩ ⟨Nat.zero_le _, g1, ⟨[], rfl, hc⟩, all_none, fun j k x y h1 h2 => absurd h2 (Nat.not_lt_zero _)⟩ ?_
  clear hv1 hc
  rintro i z h' hwf' ⟨hi, hg, ⟨es, hes, hc⟩, hall, hdis⟩
  have hv' := Sl.gr hv hwf hg
  repeat (first | refine zA ?_ | refine zB ?_ | refine zC ?_ | refine zD ?_ | refine zE ?_ | refine zF ?_ | refine zG rfl ?_ | refine zH ?_ | refine zI ?_ | refine zJ ?_ | refine zK ?_ | refine zL ?_ | refine zM ?_ | refine zN ?_ | refine zO ?_)
  repeat (first | refine zT rfl rfl rfl rfl rfl rfl (cbin_inc (by omega)) ?_ | refine zP rfl rfl rfl rfl rfl ?_ | refine zQ rfl rfl rfl ?_ | refine zR rfl rfl rfl rfl rfl (by first | assumption | exact cload_of (by assumption) rfl) ?_ | refine zS rfl rfl rfl rfl rfl rfl rfl rfl (by first | exact SlA.len (by assumption) rfl | exact Sl.map (by assumption) rfl | exact Sl.len (by assumption) rfl) ?_)
  refine pops.nil ?_
  repeat (first | refine zA ?_ | refine zB ?_ | refine zC ?_ | refine zD ?_ | refine zE ?_ | refine zF ?_ | refine zG rfl ?_ | refine zH ?_ | refine zI ?_ | refine zJ ?_ | refine zK ?_ | refine zL ?_ | refine zM ?_ | refine zN ?_ | refine zO ?_)
  refine pcond.d (p := (i : Int) < (l.length : Nat)) rfl (fun hlt => ?_) (fun hge => ?_)
  · have hlt : i < l.length := by omega
    obtain ⟨s, hx⟩ : ∃ x, l[i]? = some x := ⟨_, List.getElem?_eq_getElem hlt⟩
    have hsl := hlen s (List.mem_of_getElem? hx)
    obtain ⟨v1, hv1⟩ := clookup_str (T := tab) (h := h') (t := 60) (k := s) (l := es) rfl rfl rfl hc
    have hkey : hasKey s es = true ↔ ∃ j x, j < i ∧ l[j]? = some x ∧ bytesBeq x.data.toList s.data.toList = true := by
      unfold hasKey
      rw [List.any_eq_true]
      constructor
      · rintro ⟨p, hp, hb⟩
        have : p.1 ∈ l.take i := by rw [← hes]; exact List.mem_map_of_mem hp
        obtain ⟨j, hj⟩ := List.mem_iff_getElem?.1 this
        rw [List.getElem?_take] at hj
        split at hj
        · rename_i hji; exact ⟨j, p.1, hji, hj, by rw [bytesBeq_comm]; exact hb⟩
        · cases hj
      · rintro ⟨j, x, hj, hx, hb⟩
        have : x ∈ l.take i := List.mem_of_getElem? (i := j) (by rw [List.getElem?_take, if_pos hj]; exact hx)
        rw [← hes] at this
        obtain ⟨p, hp, rfl⟩ := List.mem_map.1 this
        exact ⟨p, hp, by rw [bytesBeq_comm]; exact hb⟩
    repeat (first | refine zA ?_ | refine zB ?_ | refine zC ?_ | refine zD ?_ | refine zE ?_ | refine zF ?_ | refine zG rfl ?_ | refine zH ?_ | refine zI ?_ | refine zJ ?_ | refine zK ?_ | refine zL ?_ | refine zM ?_ | refine zN ?_ | refine zO ?_)
    refine zP rfl rfl rfl rfl rfl ?_
    refine pops.atI (f := Value.string) rfl rfl rfl rfl rfl rfl rfl hv' hx fun q hq => ?_
    refine zR rfl rfl rfl rfl rfl (by first | assumption | exact cload_of (by assumption) rfl) ?_
    repeat (first | refine zT rfl rfl rfl rfl rfl rfl (cbin_inc (by omega)) ?_ | refine zP rfl rfl rfl rfl rfl ?_ | refine zQ rfl rfl rfl ?_ | refine zR rfl rfl rfl rfl rfl (by first | assumption | exact cload_of (by assumption) rfl) ?_ | refine zS rfl rfl rfl rfl rfl rfl rfl rfl (by first | exact SlA.len (by assumption) rfl | exact Sl.map (by assumption) rfl | exact Sl.len (by assumption) rfl) ?_)
    refine pops.nil ?_
    repeat (first | refine zA ?_ | refine zB ?_ | refine zC ?_ | refine zD ?_ | refine zE ?_ | refine zF ?_ | refine zG rfl ?_ | refine zH ?_ | refine zI ?_ | refine zJ ?_ | refine zK ?_ | refine zL ?_ | refine zM ?_ | refine zN ?_ | refine zO ?_)
    refine zP rfl rfl rfl rfl rfl ?_
    refine zP rfl rfl rfl rfl rfl ?_
    refine pops.lookup rfl rfl rfl rfl rfl rfl hv1 ?_
    repeat (first | refine zT rfl rfl rfl rfl rfl rfl (cbin_inc (by omega)) ?_ | refine zP rfl rfl rfl rfl rfl ?_ | refine zQ rfl rfl rfl ?_ | refine zR rfl rfl rfl rfl rfl (by first | assumption | exact cload_of (by assumption) rfl) ?_ | refine zS rfl rfl rfl rfl rfl rfl rfl rfl (by first | exact SlA.len (by assumption) rfl | exact Sl.map (by assumption) rfl | exact Sl.len (by assumption) rfl) ?_)
    refine pops.nil ?_
    repeat (first | refine zA ?_ | refine zB ?_ | refine zC ?_ | refine zD ?_ | refine zE ?_ | refine zF ?_ | refine zG rfl ?_ | refine zH ?_ | refine zI ?_ | refine zJ ?_ | refine zK ?_ | refine zL ?_ | refine zM ?_ | refine zN ?_ | refine zO ?_)
    have bad : ¬ NamesQ l → (∃ m, CRes.ret (.tuple #[.map none, .bool false]) = .ret (.tuple #[m, .bool (tt (NamesQ l))])) := fun hn => ⟨_, by rw [tt_f hn]⟩
    cases hk : hasKey s es with
    | true =>
      repeat (first | refine zT rfl rfl rfl rfl rfl rfl (cbin_inc (by omega)) ?_ | refine zP rfl rfl rfl rfl rfl ?_ | refine zQ rfl rfl rfl ?_ | refine zR rfl rfl rfl rfl rfl (by first | assumption | exact cload_of (by assumption) rfl) ?_ | refine zS rfl rfl rfl rfl rfl rfl rfl rfl (by first | exact SlA.len (by assumption) rfl | exact Sl.map (by assumption) rfl | exact Sl.len (by assumption) rfl) ?_)
      refine pops.nil ?_
      repeat (first | refine zA ?_ | refine zB ?_ | refine zC ?_ | refine zD ?_ | refine zE ?_ | refine zF ?_ | refine zG rfl ?_ | refine zH ?_ | refine zI ?_ | refine zJ ?_ | refine zK ?_ | refine zL ?_ | refine zM ?_ | refine zN ?_ | refine zO ?_)
      refine pcond.t rfl ?_
      repeat (first | refine zA ?_ | refine zB ?_ | refine zC ?_ | refine zD ?_ | refine zE ?_ | refine zF ?_ | refine zG rfl ?_ | refine zH ?_ | refine zI ?_ | refine zJ ?_ | refine zK ?_ | refine zL ?_ | refine zM ?_ | refine zN ?_ | refine zO ?_)
      repeat (first | refine zT rfl rfl rfl rfl rfl rfl (cbin_inc (by omega)) ?_ | refine zP rfl rfl rfl rfl rfl ?_ | refine zQ rfl rfl rfl ?_ | refine zR rfl rfl rfl rfl rfl (by first | assumption | exact cload_of (by assumption) rfl) ?_ | refine zS rfl rfl rfl rfl rfl rfl rfl rfl (by first | exact SlA.len (by assumption) rfl | exact Sl.map (by assumption) rfl | exact Sl.len (by assumption) rfl) ?_)
      refine pops.nil ?_
      repeat (first | refine zA ?_ | refine zB ?_ | refine zC ?_ | refine zD ?_ | refine zE ?_ | refine zF ?_ | refine zG rfl ?_ | refine zH ?_ | refine zI ?_ | refine zJ ?_ | refine zK ?_ | refine zL ?_ | refine zM ?_ | refine zN ?_ | refine zO ?_)
      refine pleave.r rfl ?_
      refine ⟨bad fun hN => ?_, hg⟩
      obtain ⟨j, x, h1, h2, h3⟩ := hkey.1 hk
      have := hN.2.1 j i x s h1 h2 hx
      rw [this] at h3
      cases h3
    | false =>
      repeat (first | refine zT rfl rfl rfl rfl rfl rfl (cbin_inc (by omega)) ?_ | refine zP rfl rfl rfl rfl rfl ?_ | refine zQ rfl rfl rfl ?_ | refine zR rfl rfl rfl rfl rfl (by first | assumption | exact cload_of (by assumption) rfl) ?_ | refine zS rfl rfl rfl rfl rfl rfl rfl rfl (by first | exact SlA.len (by assumption) rfl | exact Sl.map (by assumption) rfl | exact Sl.len (by assumption) rfl) ?_)
      refine pops.callG rfl rfl rfl rfl rfl fn_pnamed rfl rfl rfl (pnamed_calls s hsl) fun h2 hwf2 g2 => ?_
      cases hn : namedB s with
      | false =>
        repeat (first | refine zT rfl rfl rfl rfl rfl rfl (cbin_inc (by omega)) ?_ | refine zP rfl rfl rfl rfl rfl ?_ | refine zQ rfl rfl rfl ?_ | refine zR rfl rfl rfl rfl rfl (by first | assumption | exact cload_of (by assumption) rfl) ?_ | refine zS rfl rfl rfl rfl rfl rfl rfl rfl (by first | exact SlA.len (by assumption) rfl | exact Sl.map (by assumption) rfl | exact Sl.len (by assumption) rfl) ?_)
        refine pops.nil ?_
        repeat (first | refine zA ?_ | refine zB ?_ | refine zC ?_ | refine zD ?_ | refine zE ?_ | refine zF ?_ | refine zG rfl ?_ | refine zH ?_ | refine zI ?_ | refine zJ ?_ | refine zK ?_ | refine zL ?_ | refine zM ?_ | refine zN ?_ | refine zO ?_)
        refine pcond.t rfl ?_
        repeat (first | refine zA ?_ | refine zB ?_ | refine zC ?_ | refine zD ?_ | refine zE ?_ | refine zF ?_ | refine zG rfl ?_ | refine zH ?_ | refine zI ?_ | refine zJ ?_ | refine zK ?_ | refine zL ?_ | refine zM ?_ | refine zN ?_ | refine zO ?_)
        repeat (first | refine zT rfl rfl rfl rfl rfl rfl (cbin_inc (by omega)) ?_ | refine zP rfl rfl rfl rfl rfl ?_ | refine zQ rfl rfl rfl ?_ | refine zR rfl rfl rfl rfl rfl (by first | assumption | exact cload_of (by assumption) rfl) ?_ | refine zS rfl rfl rfl rfl rfl rfl rfl rfl (by first | exact SlA.len (by assumption) rfl | exact Sl.map (by assumption) rfl | exact Sl.len (by assumption) rfl) ?_)
        refine pops.nil ?_
        repeat (first | refine zA ?_ | refine zB ?_ | refine zC ?_ | refine zD ?_ | refine zE ?_ | refine zF ?_ | refine zG rfl ?_ | refine zH ?_ | refine zI ?_ | refine zJ ?_ | refine zK ?_ | refine zL ?_ | refine zM ?_ | refine zN ?_ | refine zO ?_)
        refine pleave.r rfl ?_
        refine ⟨bad fun hN => ?_, hg.trans g2⟩
        have := hN.1 s (List.mem_of_getElem? hx)
        rw [hn] at this
        cases this
      | true =>
        repeat (first | refine zT rfl rfl rfl rfl rfl rfl (cbin_inc (by omega)) ?_ | refine zP rfl rfl rfl rfl rfl ?_ | refine zQ rfl rfl rfl ?_ | refine zR rfl rfl rfl rfl rfl (by first | assumption | exact cload_of (by assumption) rfl) ?_ | refine zS rfl rfl rfl rfl rfl rfl rfl rfl (by first | exact SlA.len (by assumption) rfl | exact Sl.map (by assumption) rfl | exact Sl.len (by assumption) rfl) ?_)
        refine pops.nil ?_
        repeat (first | refine zA ?_ | refine zB ?_ | refine zC ?_ | refine zD ?_ | refine zE ?_ | refine zF ?_ | refine zG rfl ?_ | refine zH ?_ | refine zI ?_ | refine zJ ?_ | refine zK ?_ | refine zL ?_ | refine zM ?_ | refine zN ?_ | refine zO ?_)
        refine pcond.f rfl ?_
        repeat (first | refine zA ?_ | refine zB ?_ | refine zC ?_ | refine zD ?_ | refine zE ?_ | refine zF ?_ | refine zG rfl ?_ | refine zH ?_ | refine zI ?_ | refine zJ ?_ | refine zK ?_ | refine zL ?_ | refine zM ?_ | refine zN ?_ | refine zO ?_)
        repeat (first | refine zT rfl rfl rfl rfl rfl rfl (cbin_inc (by omega)) ?_ | refine zP rfl rfl rfl rfl rfl ?_ | refine zQ rfl rfl rfl ?_ | refine zR rfl rfl rfl rfl rfl (by first | assumption | exact cload_of (by assumption) rfl) ?_ | refine zS rfl rfl rfl rfl rfl rfl rfl rfl (by first | exact SlA.len (by assumption) rfl | exact Sl.map (by assumption) rfl | exact Sl.len (by assumption) rfl) ?_)
        refine pops.putNew (kt := 9) (et := 3) rfl rfl rfl rfl rfl rfl rfl rfl (g2.at hwf' hc) hk hwf2 fun h4 hwf4 u4 hc4 => ?_
        refine pops.nil ?_
        repeat (first | refine zA ?_ | refine zB ?_ | refine zC ?_ | refine zD ?_ | refine zE ?_ | refine zF ?_ | refine zG rfl ?_ | refine zH ?_ | refine zI ?_ | refine zJ ?_ | refine zK ?_ | refine zL ?_ | refine zM ?_ | refine zN ?_ | refine zO ?_)
        repeat (first | refine zT rfl rfl rfl rfl rfl rfl (cbin_inc (by omega)) ?_ | refine zP rfl rfl rfl rfl rfl ?_ | refine zQ rfl rfl rfl ?_ | refine zR rfl rfl rfl rfl rfl (by first | assumption | exact cload_of (by assumption) rfl) ?_ | refine zS rfl rfl rfl rfl rfl rfl rfl rfl (by first | exact SlA.len (by assumption) rfl | exact Sl.map (by assumption) rfl | exact Sl.len (by assumption) rfl) ?_)
        refine pops.nil ?_
        refine .n ⟨_, i + 1, rfl, ⟨rfl, rfl, rfl, rfl, rfl, rfl, rfl, trivial⟩, (by show l.length - (i + 1) < l.length - i; omega), by omega, (hg.trans g2).upd hb u4, ⟨_, ?_, hc4⟩, all_next hall hx hn, fun j k x y h1 h2 h3 h4 => ?_⟩
        · rw [List.map_append, hes, List.take_add_one, hx]
          rfl
        · rcases Nat.lt_or_ge k i with h5 | h5
          · exact hdis j k x y h1 h5 h3 h4
          · obtain rfl : k = i := by omega
            rw [hx] at h4
            cases h4
            cases hbb : bytesBeq x.data.toList s.data.toList with
            | false => rfl
            | true => rw [hkey.2 ⟨j, x, h1, h3, hbb⟩] at hk; cases hk
  · repeat (first | refine zA ?_ | refine zB ?_ | refine zC ?_ | refine zD ?_ | refine zE ?_ | refine zF ?_ | refine zG rfl ?_ | refine zH ?_ | refine zI ?_ | refine zJ ?_ | refine zK ?_ | refine zL ?_ | refine zM ?_ | refine zN ?_ | refine zO ?_)
    have hA : ∀ s, s ∈ l → namedB s = true := all_end hall (by omega)
    have hD : ∀ (i j : Nat) a b, i < j → l[i]? = some a → l[j]? = some b → bytesBeq a.data.toList b.data.toList = false := fun j k x y h1 h2 h3 => hdis j k x y h1 (by have := (List.getElem?_eq_some_iff.1 h3).1; omega) h2 h3
    repeat' (first | refine zT rfl rfl rfl rfl rfl rfl (cbin_inc (by omega)) ?_ | refine zZ rfl rfl rfl rfl rfl (fun _ => ?_) (fun _ => ?_) | refine zP rfl rfl rfl rfl rfl ?_ | refine zQ rfl rfl rfl ?_ | refine zR rfl rfl rfl rfl rfl (by first | assumption | exact cload_of (by assumption) rfl) ?_ | refine zS rfl rfl rfl rfl rfl rfl rfl rfl (by first | exact SlA.len (by assumption) rfl | exact Sl.map (by assumption) rfl | exact Sl.len (by assumption) rfl) ?_)
    all_goals (refine pops.nil ?_)
    all_goals (repeat (first | refine zA ?_ | refine zB ?_ | refine zC ?_ | refine zD ?_ | refine zE ?_ | refine zF ?_ | refine zG rfl ?_ | refine zH ?_ | refine zI ?_ | refine zJ ?_ | refine zK ?_ | refine zL ?_ | refine zM ?_ | refine zN ?_ | refine zO ?_))
    all_goals (refine pleave.r rfl ?_)
    · rename_i q1 q2
      simp at q1 q2
      exact ⟨⟨_, by rw [tt_t (p := NamesQ l) ⟨hA, hD, by omega, by omega⟩]⟩, hg⟩
    · rename_i q1 q2
      simp at q1 q2
      exact ⟨⟨_, by rw [tt_f (p := NamesQ l) (fun hN => by have := hN.2.2.2; omega)]⟩, hg⟩
    · rename_i q1
      simp at q1
      exact ⟨⟨_, by rw [tt_f (p := NamesQ l) (fun hN => by have := hN.2.2.1; revert this q1; clear hD hA hall hdis hes; cases l <;> simp <;> omega)]⟩, hg⟩
theorem all_nextI {α : Type} {l : List α} {P : Nat → α → Prop} {i : Nat} {c : α} (hall : ∀ (j : Nat) y, j < i → l[j]? = some y → P j y) (hc : l[i]? = some c) (hp : P i c) : ∀ (j : Nat) y, j < i + 1 → l[j]? = some y → P j y := by
  intro j y hj hy
  rcases Nat.lt_or_ge j i with h1 | h1
  · exact hall j y h1 hy
  · obtain rfl : j = i := by omega
    rw [hc] at hy; cases hy; exact hp
theorem fn_propValid : tab.fn 36 = some Tryz.f36 := by kernel_rfl
theorem propValid_calls {v : Value} {p : PropD} (hv : PropV tab ks.str 64 h v p) (hlen : TextsLt p.names) : CalF (X w) 36 [v] h fun r h' => r = .ret (.bool (tt (PropP p))) ∧ Gr h h' := by
  refine CalF.wf fun hwf => ?_
  obtain ⟨c, s, rfl, oc, os, hn, hs⟩ := hv
  have hslt := hs.1
  rw [List.length_map] at hslt
  refine CalF.intro fn_propValid rfl (Nat.le_of_ble_eq_true rfl) ?_
  repeat (first | refine zA ?_ | refine zB ?_ | refine zC ?_ | refine zD ?_ | refine zE ?_ | refine zF ?_ | refine zG rfl ?_ | refine zH ?_ | refine zI ?_ | refine zJ ?_ | refine zK ?_ | refine zL ?_ | refine zM ?_ | refine zN ?_ | refine zO ?_)
  refine pops.box (cs := [c, s]) rfl rfl rfl rfl (by simp [oc, os]) rfl rfl hwf fun b h1 hb hwf1 g1 hc => ?_
  refine zP rfl rfl rfl rfl rfl ?_
  refine pops.nil ?_
  repeat (first | refine zA ?_ | refine zB ?_ | refine zC ?_ | refine zD ?_ | refine zE ?_ | refine zF ?_ | refine zG rfl ?_ | refine zH ?_ | refine zI ?_ | refine zJ ?_ | refine zK ?_ | refine zL ?_ | refine zM ?_ | refine zN ?_ | refine zO ?_)
  repeat (first | refine zT rfl rfl rfl rfl rfl rfl (cbin_inc (by omega)) ?_ | refine zP rfl rfl rfl rfl rfl ?_ | refine zQ rfl rfl rfl ?_ | refine zR rfl rfl rfl rfl rfl (by first | assumption | exact cload_of (by assumption) rfl) ?_ | refine zS rfl rfl rfl rfl rfl rfl rfl rfl (by first | exact SlA.len (by assumption) rfl | exact Sl.map (by assumption) rfl | exact Sl.len (by assumption) rfl) ?_)
  refine pops.callV rfl rfl rfl rfl rfl fn_pindices rfl rfl ((pindices_calls (Sl.gr hn hwf g1) hlen).monoW fun r h2 hwf2 hh => ?_)
  obtain ⟨⟨m, rfl⟩, g2⟩ := hh
  replace hc := g2.at hwf1 hc
  have g02 := g1.trans g2
  refine ⟨_, rfl, ?_⟩
  cases hN : tt (NamesQ p.names) with
  | false =>
    repeat (first | refine zT rfl rfl rfl rfl rfl rfl (cbin_inc (by omega)) ?_ | refine zP rfl rfl rfl rfl rfl ?_ | refine zQ rfl rfl rfl ?_ | refine zR rfl rfl rfl rfl rfl (by first | assumption | exact cload_of (by assumption) rfl) ?_ | refine zS rfl rfl rfl rfl rfl rfl rfl rfl (by first | exact SlA.len (by assumption) rfl | exact Sl.map (by assumption) rfl | exact Sl.len (by assumption) rfl) ?_)
    refine pops.nil ?_
    repeat (first | refine zA ?_ | refine zB ?_ | refine zC ?_ | refine zD ?_ | refine zE ?_ | refine zF ?_ | refine zG rfl ?_ | refine zH ?_ | refine zI ?_ | refine zJ ?_ | refine zK ?_ | refine zL ?_ | refine zM ?_ | refine zN ?_ | refine zO ?_)
    repeat (first | refine zT rfl rfl rfl rfl rfl rfl (cbin_inc (by omega)) ?_ | refine zP rfl rfl rfl rfl rfl ?_ | refine zQ rfl rfl rfl ?_ | refine zR rfl rfl rfl rfl rfl (by first | assumption | exact cload_of (by assumption) rfl) ?_ | refine zS rfl rfl rfl rfl rfl rfl rfl rfl (by first | exact SlA.len (by assumption) rfl | exact Sl.map (by assumption) rfl | exact Sl.len (by assumption) rfl) ?_)
    refine pops.nil ?_
    repeat (first | refine zA ?_ | refine zB ?_ | refine zC ?_ | refine zD ?_ | refine zE ?_ | refine zF ?_ | refine zG rfl ?_ | refine zH ?_ | refine zI ?_ | refine zJ ?_ | refine zK ?_ | refine zL ?_ | refine zM ?_ | refine zN ?_ | refine zO ?_)
    refine pcond.t rfl ?_
    repeat (first | refine zA ?_ | refine zB ?_ | refine zC ?_ | refine zD ?_ | refine zE ?_ | refine zF ?_ | refine zG rfl ?_ | refine zH ?_ | refine zI ?_ | refine zJ ?_ | refine zK ?_ | refine zL ?_ | refine zM ?_ | refine zN ?_ | refine zO ?_)
    repeat (first | refine zT rfl rfl rfl rfl rfl rfl (cbin_inc (by omega)) ?_ | refine zP rfl rfl rfl rfl rfl ?_ | refine zQ rfl rfl rfl ?_ | refine zR rfl rfl rfl rfl rfl (by first | assumption | exact cload_of (by assumption) rfl) ?_ | refine zS rfl rfl rfl rfl rfl rfl rfl rfl (by first | exact SlA.len (by assumption) rfl | exact Sl.map (by assumption) rfl | exact Sl.len (by assumption) rfl) ?_)
    refine pops.nil ?_
    repeat (first | refine zA ?_ | refine zB ?_ | refine zC ?_ | refine zD ?_ | refine zE ?_ | refine zF ?_ | refine zG rfl ?_ | refine zH ?_ | refine zI ?_ | refine zJ ?_ | refine zK ?_ | refine zL ?_ | refine zM ?_ | refine zN ?_ | refine zO ?_)
    refine pleave.r rfl ?_
    refine ⟨?_, g02⟩
    rw [tt_f (p := PropP p) (fun hP => by rw [tt_t hP.1] at hN; cases hN)]
  | true =>
  have hN := tt_iff.1 hN
  replace hn := Sl.gr hn hwf g02
  replace hs := Sl.gr hs hwf g02
  repeat (first | refine zT rfl rfl rfl rfl rfl rfl (cbin_inc (by omega)) ?_ | refine zP rfl rfl rfl rfl rfl ?_ | refine zQ rfl rfl rfl ?_ | refine zR rfl rfl rfl rfl rfl (by first | assumption | exact cload_of (by assumption) rfl) ?_ | refine zS rfl rfl rfl rfl rfl rfl rfl rfl (by first | exact SlA.len (by assumption) rfl | exact Sl.map (by assumption) rfl | exact Sl.len (by assumption) rfl) ?_)
  refine pops.nil ?_
  repeat (first | refine zA ?_ | refine zB ?_ | refine zC ?_ | refine zD ?_ | refine zE ?_ | refine zF ?_ | refine zG rfl ?_ | refine zH ?_ | refine zI ?_ | refine zJ ?_ | refine zK ?_ | refine zL ?_ | refine zM ?_ | refine zN ?_ | refine zO ?_)
  repeat (first | refine zT rfl rfl rfl rfl rfl rfl (cbin_inc (by omega)) ?_ | refine zP rfl rfl rfl rfl rfl ?_ | refine zQ rfl rfl rfl ?_ | refine zR rfl rfl rfl rfl rfl (by first | assumption | exact cload_of (by assumption) rfl) ?_ | refine zS rfl rfl rfl rfl rfl rfl rfl rfl (by first | exact SlA.len (by assumption) rfl | exact Sl.map (by assumption) rfl | exact Sl.len (by assumption) rfl) ?_)
  refine pops.nil ?_
  repeat (first | refine zA ?_ | refine zB ?_ | refine zC ?_ | refine zD ?_ | refine zE ?_ | refine zF ?_ | refine zG rfl ?_ | refine zH ?_ | refine zI ?_ | refine zJ ?_ | refine zK ?_ | refine zL ?_ | refine zM ?_ | refine zN ?_ | refine zO ?_)
  refine pcond.f rfl ?_
  repeat (first | refine zA ?_ | refine zB ?_ | refine zC ?_ | refine zD ?_ | refine zE ?_ | refine zF ?_ | refine zG rfl ?_ | refine zH ?_ | refine zI ?_ | refine zJ ?_ | refine zK ?_ | refine zL ?_ | refine zM ?_ | refine zN ?_ | refine zO ?_)
  refine zP rfl rfl rfl rfl rfl ?_
  refine zR rfl rfl rfl rfl rfl (by first | assumption | exact cload_of (by assumption) rfl) ?_
  refine zS rfl rfl rfl rfl rfl rfl rfl rfl (Sl.map hs rfl) ?_
  refine zP rfl rfl rfl rfl rfl ?_
  refine pops.nil ?_
  repeat (first | refine zA ?_ | refine zB ?_ | refine zC ?_ | refine zD ?_ | refine zE ?_ | refine zF ?_ | refine zG rfl ?_ | refine zH ?_ | refine zI ?_ | refine zJ ?_ | refine zK ?_ | refine zL ?_ | refine zM ?_ | refine zN ?_ | refine zO ?_)
  refine Loops.ind 7 (fun i : Nat => [(1, .pointer (some ⟨b, 0, none⟩)), (2, .bool false), (17, s), (18, .int .i64 (p.spans.length : Nat)), (19, .int .i64 (i : Nat))])
    (fun i h' => i ≤ p.spans.length ∧ Gr h2 h' ∧ ∀ (j : Nat) x, j < i → p.spans[j]? = some x → SpanAt p j x) (fun i => p.spans.length - i) 0 (by decide) ⟨rfl, rfl, rfl, rfl, rfl, trivial⟩ ⟨Nat.zero_le _, Gr.refl _, fun j x hj => absurd hj (Nat.not_lt_zero j)⟩ ?_
  rintro i z h' hwf' ⟨hi, g, hall⟩
  replace hc := g.at hwf2 hc
  replace hn := Sl.gr hn hwf2 g
  replace hs := Sl.gr hs hwf2 g
  repeat (first | refine zA ?_ | refine zB ?_ | refine zC ?_ | refine zD ?_ | refine zE ?_ | refine zF ?_ | refine zG rfl ?_ | refine zH ?_ | refine zI ?_ | refine zJ ?_ | refine zK ?_ | refine zL ?_ | refine zM ?_ | refine zN ?_ | refine zO ?_)
  repeat (first | refine zT rfl rfl rfl rfl rfl rfl (cbin_inc (by omega)) ?_ | refine zP rfl rfl rfl rfl rfl ?_ | refine zQ rfl rfl rfl ?_ | refine zR rfl rfl rfl rfl rfl (by first | assumption | exact cload_of (by assumption) rfl) ?_ | refine zS rfl rfl rfl rfl rfl rfl rfl rfl (by first | exact SlA.len (by assumption) rfl | exact Sl.map (by assumption) rfl | exact Sl.len (by assumption) rfl) ?_)
  refine pops.nil ?_
  repeat (first | refine zA ?_ | refine zB ?_ | refine zC ?_ | refine zD ?_ | refine zE ?_ | refine zF ?_ | refine zG rfl ?_ | refine zH ?_ | refine zI ?_ | refine zJ ?_ | refine zK ?_ | refine zL ?_ | refine zM ?_ | refine zN ?_ | refine zO ?_)
  refine pcond.d (p := (i : Int) < (p.spans.length : Nat)) rfl (fun hlt => ?_) (fun hge => ?_)
  · have hlt : i < p.spans.length := by omega
    obtain ⟨x, hx⟩ : ∃ x, p.spans[i]? = some x := ⟨_, List.getElem?_eq_getElem hlt⟩
    have bad : ¬ SpanAt p i x → tt (PropP p) = false := fun hn => tt_f fun hP => hn (hP.2 i x hx)
    repeat (first | refine zA ?_ | refine zB ?_ | refine zC ?_ | refine zD ?_ | refine zE ?_ | refine zF ?_ | refine zG rfl ?_ | refine zH ?_ | refine zI ?_ | refine zJ ?_ | refine zK ?_ | refine zL ?_ | refine zM ?_ | refine zN ?_ | refine zO ?_)
    refine zP rfl rfl rfl rfl rfl ?_
    refine pops.atI (f := spanV) rfl rfl rfl rfl rfl rfl rfl hs hx fun q hq => ?_
    refine zR rfl rfl rfl rfl rfl (by first | assumption | exact cload_of (by assumption) rfl) ?_
    refine pops.alloc rfl rfl rfl rfl rfl hwf' fun bx h3 hbx hwf3 g3 hcx => ?_
    refine zP rfl rfl rfl rfl rfl ?_
    refine pops.store (cs' := [.int .i64 x.lo, .int .i64 x.hi, .int .i64 x.value]) rfl rfl rfl rfl rfl hcx rfl rfl rfl rfl hwf3 fun h4 hwf4 u4 hcx4 => ?_
    have g4 := g3.upd hbx u4
    have hbx4 := CH.lt hwf4 hcx4
    replace hc := g4.at hwf' hc
    replace hn := Sl.gr hn hwf' g4
    replace hs := Sl.gr hs hwf' g4
    clear hcx
    refine pops.nil ?_
    repeat (first | refine zA ?_ | refine zB ?_ | refine zC ?_ | refine zD ?_ | refine zE ?_ | refine zF ?_ | refine zG rfl ?_ | refine zH ?_ | refine zI ?_ | refine zJ ?_ | refine zK ?_ | refine zL ?_ | refine zM ?_ | refine zN ?_ | refine zO ?_)
    refine zR rfl rfl rfl rfl rfl (by first | assumption | exact cload_of (by assumption) rfl) ?_
    refine pops.callG rfl rfl rfl rfl rfl fn_inside rfl rfl rfl (inside_calls x) fun h5 hwf5 g5 => ?_
    replace hc := g5.at hwf4 hc
    replace hcx4 := g5.at hwf4 hcx4
    replace hn := Sl.gr hn hwf4 g5
    replace hs := Sl.gr hs hwf4 g5
    have g05 := (g.trans g4).trans g5
    cases hd : decide (0 ≤ x.lo ∧ x.lo ≤ x.hi ∧ x.hi ≤ 1114111) with
    | false =>
      have hd := of_decide_eq_false hd
      repeat (first | refine zT rfl rfl rfl rfl rfl rfl (cbin_inc (by omega)) ?_ | refine zP rfl rfl rfl rfl rfl ?_ | refine zQ rfl rfl rfl ?_ | refine zR rfl rfl rfl rfl rfl (by first | assumption | exact cload_of (by assumption) rfl) ?_ | refine zS rfl rfl rfl rfl rfl rfl rfl rfl (by first | exact SlA.len (by assumption) rfl | exact Sl.map (by assumption) rfl | exact Sl.len (by assumption) rfl) ?_)
      refine pops.nil ?_
      repeat (first | refine zA ?_ | refine zB ?_ | refine zC ?_ | refine zD ?_ | refine zE ?_ | refine zF ?_ | refine zG rfl ?_ | refine zH ?_ | refine zI ?_ | refine zJ ?_ | refine zK ?_ | refine zL ?_ | refine zM ?_ | refine zN ?_ | refine zO ?_)
      refine pcond.t rfl ?_
      repeat (first | refine zA ?_ | refine zB ?_ | refine zC ?_ | refine zD ?_ | refine zE ?_ | refine zF ?_ | refine zG rfl ?_ | refine zH ?_ | refine zI ?_ | refine zJ ?_ | refine zK ?_ | refine zL ?_ | refine zM ?_ | refine zN ?_ | refine zO ?_)
      repeat (first | refine zT rfl rfl rfl rfl rfl rfl (cbin_inc (by omega)) ?_ | refine zP rfl rfl rfl rfl rfl ?_ | refine zQ rfl rfl rfl ?_ | refine zR rfl rfl rfl rfl rfl (by first | assumption | exact cload_of (by assumption) rfl) ?_ | refine zS rfl rfl rfl rfl rfl rfl rfl rfl (by first | exact SlA.len (by assumption) rfl | exact Sl.map (by assumption) rfl | exact Sl.len (by assumption) rfl) ?_)
      refine pops.nil ?_
      repeat (first | refine zA ?_ | refine zB ?_ | refine zC ?_ | refine zD ?_ | refine zE ?_ | refine zF ?_ | refine zG rfl ?_ | refine zH ?_ | refine zI ?_ | refine zJ ?_ | refine zK ?_ | refine zL ?_ | refine zM ?_ | refine zN ?_ | refine zO ?_)
      refine pleave.r rfl ?_
      refine ⟨?_, g02.trans g05⟩
      rw [bad fun hs => hd ⟨hs.1, hs.2.1, hs.2.2.1⟩]
    | true =>
    have hd := of_decide_eq_true hd
    repeat (first | refine zT rfl rfl rfl rfl rfl rfl (cbin_inc (by omega)) ?_ | refine zY rfl rfl rfl rfl rfl rfl ?_ | refine zQ rfl rfl rfl ?_ | refine zR rfl rfl rfl rfl rfl (by first | assumption | exact cload_of (by assumption) rfl) ?_ | refine zS rfl rfl rfl rfl rfl rfl rfl rfl (by first | exact SlA.len (by assumption) rfl | exact Sl.map (by assumption) rfl | exact Sl.len (by assumption) rfl) ?_)
    refine zZ rfl rfl rfl rfl rfl (fun q1 => ?_) (fun q1 => ?_)
    · have q1 := of_decide_eq_true q1
      repeat (first | refine zT rfl rfl rfl rfl rfl rfl (cbin_inc (by omega)) ?_ | refine zP rfl rfl rfl rfl rfl ?_ | refine zQ rfl rfl rfl ?_ | refine zR rfl rfl rfl rfl rfl (by first | assumption | exact cload_of (by assumption) rfl) ?_ | refine zS rfl rfl rfl rfl rfl rfl rfl rfl (by first | exact SlA.len (by assumption) rfl | exact Sl.map (by assumption) rfl | exact Sl.len (by assumption) rfl) ?_)
      refine pops.nil ?_
      repeat (first | refine zA ?_ | refine zB ?_ | refine zC ?_ | refine zD ?_ | refine zE ?_ | refine zF ?_ | refine zG rfl ?_ | refine zH ?_ | refine zI ?_ | refine zJ ?_ | refine zK ?_ | refine zL ?_ | refine zM ?_ | refine zN ?_ | refine zO ?_)
      refine pcond.t rfl ?_
      repeat (first | refine zA ?_ | refine zB ?_ | refine zC ?_ | refine zD ?_ | refine zE ?_ | refine zF ?_ | refine zG rfl ?_ | refine zH ?_ | refine zI ?_ | refine zJ ?_ | refine zK ?_ | refine zL ?_ | refine zM ?_ | refine zN ?_ | refine zO ?_)
      repeat (first | refine zT rfl rfl rfl rfl rfl rfl (cbin_inc (by omega)) ?_ | refine zP rfl rfl rfl rfl rfl ?_ | refine zQ rfl rfl rfl ?_ | refine zR rfl rfl rfl rfl rfl (by first | assumption | exact cload_of (by assumption) rfl) ?_ | refine zS rfl rfl rfl rfl rfl rfl rfl rfl (by first | exact SlA.len (by assumption) rfl | exact Sl.map (by assumption) rfl | exact Sl.len (by assumption) rfl) ?_)
      refine pops.nil ?_
      repeat (first | refine zA ?_ | refine zB ?_ | refine zC ?_ | refine zD ?_ | refine zE ?_ | refine zF ?_ | refine zG rfl ?_ | refine zH ?_ | refine zI ?_ | refine zJ ?_ | refine zK ?_ | refine zL ?_ | refine zM ?_ | refine zN ?_ | refine zO ?_)
      refine pleave.r rfl ?_
      refine ⟨?_, g02.trans g05⟩
      rw [bad fun hs => by have := hs.2.2.2.1; omega]
    have q1 := of_decide_eq_false q1
    repeat (first | refine zT rfl rfl rfl rfl rfl rfl (cbin_inc (by omega)) ?_ | refine zY rfl rfl rfl rfl rfl rfl ?_ | refine zQ rfl rfl rfl ?_ | refine zR rfl rfl rfl rfl rfl (by first | assumption | exact cload_of (by assumption) rfl) ?_ | refine zS rfl rfl rfl rfl rfl rfl rfl rfl (by first | exact SlA.len (by assumption) rfl | exact Sl.map (by assumption) rfl | exact Sl.len (by assumption) rfl) ?_)
    refine zZ rfl rfl rfl rfl rfl (fun q2 => ?_) (fun q2 => ?_)
    · have q2 := of_decide_eq_true q2
      repeat (first | refine zT rfl rfl rfl rfl rfl rfl (cbin_inc (by omega)) ?_ | refine zP rfl rfl rfl rfl rfl ?_ | refine zQ rfl rfl rfl ?_ | refine zR rfl rfl rfl rfl rfl (by first | assumption | exact cload_of (by assumption) rfl) ?_ | refine zS rfl rfl rfl rfl rfl rfl rfl rfl (by first | exact SlA.len (by assumption) rfl | exact Sl.map (by assumption) rfl | exact Sl.len (by assumption) rfl) ?_)
      refine pops.nil ?_
      repeat (first | refine zA ?_ | refine zB ?_ | refine zC ?_ | refine zD ?_ | refine zE ?_ | refine zF ?_ | refine zG rfl ?_ | refine zH ?_ | refine zI ?_ | refine zJ ?_ | refine zK ?_ | refine zL ?_ | refine zM ?_ | refine zN ?_ | refine zO ?_)
      refine pcond.t rfl ?_
      repeat (first | refine zA ?_ | refine zB ?_ | refine zC ?_ | refine zD ?_ | refine zE ?_ | refine zF ?_ | refine zG rfl ?_ | refine zH ?_ | refine zI ?_ | refine zJ ?_ | refine zK ?_ | refine zL ?_ | refine zM ?_ | refine zN ?_ | refine zO ?_)
      repeat (first | refine zT rfl rfl rfl rfl rfl rfl (cbin_inc (by omega)) ?_ | refine zP rfl rfl rfl rfl rfl ?_ | refine zQ rfl rfl rfl ?_ | refine zR rfl rfl rfl rfl rfl (by first | assumption | exact cload_of (by assumption) rfl) ?_ | refine zS rfl rfl rfl rfl rfl rfl rfl rfl (by first | exact SlA.len (by assumption) rfl | exact Sl.map (by assumption) rfl | exact Sl.len (by assumption) rfl) ?_)
      refine pops.nil ?_
      repeat (first | refine zA ?_ | refine zB ?_ | refine zC ?_ | refine zD ?_ | refine zE ?_ | refine zF ?_ | refine zG rfl ?_ | refine zH ?_ | refine zI ?_ | refine zJ ?_ | refine zK ?_ | refine zL ?_ | refine zM ?_ | refine zN ?_ | refine zO ?_)
      refine pleave.r rfl ?_
      refine ⟨?_, g02.trans g05⟩
      rw [bad fun hs => by have := hs.2.2.2.2.1; omega]
    have q2 := of_decide_eq_false q2
    repeat (first | refine zT rfl rfl rfl rfl rfl rfl (cbin_inc (by omega)) ?_ | refine zP rfl rfl rfl rfl rfl ?_ | refine zQ rfl rfl rfl ?_ | refine zR rfl rfl rfl rfl rfl (by first | assumption | exact cload_of (by assumption) rfl) ?_ | refine zS rfl rfl rfl rfl rfl rfl rfl rfl (by first | exact SlA.len (by assumption) rfl | exact Sl.map (by assumption) rfl | exact Sl.len (by assumption) rfl) ?_)
    refine pops.nil ?_
    repeat (first | refine zA ?_ | refine zB ?_ | refine zC ?_ | refine zD ?_ | refine zE ?_ | refine zF ?_ | refine zG rfl ?_ | refine zH ?_ | refine zI ?_ | refine zJ ?_ | refine zK ?_ | refine zL ?_ | refine zM ?_ | refine zN ?_ | refine zO ?_)
    refine pcond.f rfl ?_
    repeat (first | refine zA ?_ | refine zB ?_ | refine zC ?_ | refine zD ?_ | refine zE ?_ | refine zF ?_ | refine zG rfl ?_ | refine zH ?_ | refine zI ?_ | refine zJ ?_ | refine zK ?_ | refine zL ?_ | refine zM ?_ | refine zN ?_ | refine zO ?_)
    repeat (first | refine zT rfl rfl rfl rfl rfl rfl (cbin_inc (by omega)) ?_ | refine zY rfl rfl rfl rfl rfl rfl ?_ | refine zQ rfl rfl rfl ?_ | refine zR rfl rfl rfl rfl rfl (by first | assumption | exact cload_of (by assumption) rfl) ?_ | refine zS rfl rfl rfl rfl rfl rfl rfl rfl (by first | exact SlA.len (by assumption) rfl | exact Sl.map (by assumption) rfl | exact Sl.len (by assumption) rfl) ?_)
    rcases Nat.eq_zero_or_pos i with hi0 | hi0
    · refine zZ rfl rfl rfl rfl rfl (fun q3 => ?_) (fun q3 => ?_)
      rotate_left
      · have q3 := of_decide_eq_false q3
        omega
      refine pops.nil ?_
      repeat (first | refine zA ?_ | refine zB ?_ | refine zC ?_ | refine zD ?_ | refine zE ?_ | refine zF ?_ | refine zG rfl ?_ | refine zH ?_ | refine zI ?_ | refine zJ ?_ | refine zK ?_ | refine zL ?_ | refine zM ?_ | refine zN ?_ | refine zO ?_)
      refine pcond.t rfl ?_
      repeat (first | refine zA ?_ | refine zB ?_ | refine zC ?_ | refine zD ?_ | refine zE ?_ | refine zF ?_ | refine zG rfl ?_ | refine zH ?_ | refine zI ?_ | refine zJ ?_ | refine zK ?_ | refine zL ?_ | refine zM ?_ | refine zN ?_ | refine zO ?_)
      repeat (first | refine zT rfl rfl rfl rfl rfl rfl (cbin_inc (by omega)) ?_ | refine zP rfl rfl rfl rfl rfl ?_ | refine zQ rfl rfl rfl ?_ | refine zR rfl rfl rfl rfl rfl (by first | assumption | exact cload_of (by assumption) rfl) ?_ | refine zS rfl rfl rfl rfl rfl rfl rfl rfl (by first | exact SlA.len (by assumption) rfl | exact Sl.map (by assumption) rfl | exact Sl.len (by assumption) rfl) ?_)
      refine pops.nil ?_
      refine .n ⟨_, i + 1, rfl, ⟨rfl, rfl, rfl, rfl, rfl, trivial⟩, (by show p.spans.length - (i + 1) < p.spans.length - i; omega), by omega, g05, all_nextI hall hx ⟨hd.1, hd.2.1, hd.2.2, by omega, by omega, fun y h0 _ => by omega⟩⟩
    · refine zZ rfl rfl rfl rfl rfl (fun q3 => ?_) (fun q3 => ?_)
      · have q3 := of_decide_eq_true q3
        omega
      obtain ⟨y, hy⟩ : ∃ y, p.spans[i - 1]? = some y := ⟨_, List.getElem?_eq_getElem (by omega)⟩
      have hY := hall (i - 1) y (by omega) hy
      refine pops.nil ?_
      repeat (first | refine zA ?_ | refine zB ?_ | refine zC ?_ | refine zD ?_ | refine zE ?_ | refine zF ?_ | refine zG rfl ?_ | refine zH ?_ | refine zI ?_ | refine zJ ?_ | refine zK ?_ | refine zL ?_ | refine zM ?_ | refine zN ?_ | refine zO ?_)
      refine pcond.f rfl ?_
      repeat (first | refine zA ?_ | refine zB ?_ | refine zC ?_ | refine zD ?_ | refine zE ?_ | refine zF ?_ | refine zG rfl ?_ | refine zH ?_ | refine zI ?_ | refine zJ ?_ | refine zK ?_ | refine zL ?_ | refine zM ?_ | refine zN ?_ | refine zO ?_)
      refine zP rfl rfl rfl rfl rfl ?_
      refine zR rfl rfl rfl rfl rfl (by first | assumption | exact cload_of (by assumption) rfl) ?_
      refine zP rfl rfl rfl rfl rfl ?_
      refine zT rfl rfl rfl rfl rfl rfl (cbin_dec hi0 (by omega)) ?_
      refine pops.atI (f := spanV) rfl rfl rfl rfl rfl rfl rfl hs hy fun q4 hq4 => ?_
      refine zR rfl rfl rfl rfl rfl (by first | assumption | exact cload_of (by assumption) rfl) ?_
      refine pops.alloc rfl rfl rfl rfl rfl hwf5 fun by_ h6 hby hwf6 g6 hcy => ?_
      refine pops.store (cs' := [.int .i64 y.lo, .int .i64 y.hi, .int .i64 y.value]) rfl rfl rfl rfl rfl hcy rfl rfl rfl rfl hwf6 fun h7 hwf7 u7 hcy7 => ?_
      have g7 := g6.upd hby u7
      replace hc := g7.at hwf5 hc
      have hcx7 := g7.at hwf5 hcx4
      replace hn := Sl.gr hn hwf5 g7
      replace hs := Sl.gr hs hwf5 g7
      have g07 := g05.trans g7
      clear hcy hcx4
      refine pops.nil ?_
      repeat (first | refine zA ?_ | refine zB ?_ | refine zC ?_ | refine zD ?_ | refine zE ?_ | refine zF ?_ | refine zG rfl ?_ | refine zH ?_ | refine zI ?_ | refine zJ ?_ | refine zK ?_ | refine zL ?_ | refine zM ?_ | refine zN ?_ | refine zO ?_)
      have next : (y.hi < x.lo ∧ (y.hi + 1 = x.lo → y.value ≠ x.value)) → ∀ (j : Nat) x, j < i + 1 → p.spans[j]? = some x → SpanAt p j x := fun hh => all_nextI hall hx ⟨hd.1, hd.2.1, hd.2.2, by omega, by omega, fun y' _ hy' => by rw [hy] at hy'; cases hy'; exact hh⟩
      have bad2 : ¬ (y.hi < x.lo ∧ (y.hi + 1 = x.lo → y.value ≠ x.value)) → tt (PropP p) = false := fun hn => bad fun hs => hn (hs.2.2.2.2.2 y hi0 hy)
      have hyb : y.hi ≤ 1114111 ∧ 0 ≤ y.hi := ⟨hY.2.2.1, by have := hY.1; have := hY.2.1; omega⟩
      repeat (first | refine zT rfl rfl rfl rfl rfl rfl (cbin_inc (by omega)) ?_ | refine zY rfl rfl rfl rfl rfl rfl ?_ | refine zQ rfl rfl rfl ?_ | refine zR rfl rfl rfl rfl rfl (by first | assumption | exact cload_of (by assumption) rfl) ?_ | refine zS rfl rfl rfl rfl rfl rfl rfl rfl (by first | exact SlA.len (by assumption) rfl | exact Sl.map (by assumption) rfl | exact Sl.len (by assumption) rfl) ?_)
      refine zZ rfl rfl rfl rfl rfl (fun q5 => ?_) (fun q5 => ?_)
      · have q5 := of_decide_eq_true q5
        repeat (first | refine zT rfl rfl rfl rfl rfl rfl (cbin_inc (by omega)) ?_ | refine zP rfl rfl rfl rfl rfl ?_ | refine zQ rfl rfl rfl ?_ | refine zR rfl rfl rfl rfl rfl (by first | assumption | exact cload_of (by assumption) rfl) ?_ | refine zS rfl rfl rfl rfl rfl rfl rfl rfl (by first | exact SlA.len (by assumption) rfl | exact Sl.map (by assumption) rfl | exact Sl.len (by assumption) rfl) ?_)
        refine pops.nil ?_
        repeat (first | refine zA ?_ | refine zB ?_ | refine zC ?_ | refine zD ?_ | refine zE ?_ | refine zF ?_ | refine zG rfl ?_ | refine zH ?_ | refine zI ?_ | refine zJ ?_ | refine zK ?_ | refine zL ?_ | refine zM ?_ | refine zN ?_ | refine zO ?_)
        refine pcond.t rfl ?_
        repeat (first | refine zA ?_ | refine zB ?_ | refine zC ?_ | refine zD ?_ | refine zE ?_ | refine zF ?_ | refine zG rfl ?_ | refine zH ?_ | refine zI ?_ | refine zJ ?_ | refine zK ?_ | refine zL ?_ | refine zM ?_ | refine zN ?_ | refine zO ?_)
        repeat (first | refine zT rfl rfl rfl rfl rfl rfl (cbin_inc (by omega)) ?_ | refine zP rfl rfl rfl rfl rfl ?_ | refine zQ rfl rfl rfl ?_ | refine zR rfl rfl rfl rfl rfl (by first | assumption | exact cload_of (by assumption) rfl) ?_ | refine zS rfl rfl rfl rfl rfl rfl rfl rfl (by first | exact SlA.len (by assumption) rfl | exact Sl.map (by assumption) rfl | exact Sl.len (by assumption) rfl) ?_)
        refine pops.nil ?_
        repeat (first | refine zA ?_ | refine zB ?_ | refine zC ?_ | refine zD ?_ | refine zE ?_ | refine zF ?_ | refine zG rfl ?_ | refine zH ?_ | refine zI ?_ | refine zJ ?_ | refine zK ?_ | refine zL ?_ | refine zM ?_ | refine zN ?_ | refine zO ?_)
        refine pleave.r rfl ?_
        refine ⟨?_, g02.trans g07⟩
        rw [bad2 (by omega)]
      have q5 := of_decide_eq_false q5
      refine zP rfl rfl rfl rfl rfl ?_
      refine zP rfl rfl rfl rfl rfl ?_
      refine zR rfl rfl rfl rfl rfl (by first | assumption | exact cload_of (by assumption) rfl) ?_
      refine zT rfl rfl rfl rfl rfl rfl (cbin_addI (n := y.hi) (m := 1) (by omega) (by omega)) ?_
      repeat (first | refine zT rfl rfl rfl rfl rfl rfl (cbin_inc (by omega)) ?_ | refine zY rfl rfl rfl rfl rfl rfl ?_ | refine zQ rfl rfl rfl ?_ | refine zR rfl rfl rfl rfl rfl (by first | assumption | exact cload_of (by assumption) rfl) ?_ | refine zS rfl rfl rfl rfl rfl rfl rfl rfl (by first | exact SlA.len (by assumption) rfl | exact Sl.map (by assumption) rfl | exact Sl.len (by assumption) rfl) ?_)
      refine zZ rfl rfl rfl rfl rfl (fun q6 => ?_) (fun q6 => ?_)
      · have q6 := of_decide_eq_true q6
        repeat (first | refine zT rfl rfl rfl rfl rfl rfl (cbin_inc (by omega)) ?_ | refine zY rfl rfl rfl rfl rfl rfl ?_ | refine zQ rfl rfl rfl ?_ | refine zR rfl rfl rfl rfl rfl (by first | assumption | exact cload_of (by assumption) rfl) ?_ | refine zS rfl rfl rfl rfl rfl rfl rfl rfl (by first | exact SlA.len (by assumption) rfl | exact Sl.map (by assumption) rfl | exact Sl.len (by assumption) rfl) ?_)
        refine zZ rfl rfl rfl rfl rfl (fun q7 => ?_) (fun q7 => ?_)
        · have q7 := of_decide_eq_true q7
          repeat (first | refine zT rfl rfl rfl rfl rfl rfl (cbin_inc (by omega)) ?_ | refine zP rfl rfl rfl rfl rfl ?_ | refine zQ rfl rfl rfl ?_ | refine zR rfl rfl rfl rfl rfl (by first | assumption | exact cload_of (by assumption) rfl) ?_ | refine zS rfl rfl rfl rfl rfl rfl rfl rfl (by first | exact SlA.len (by assumption) rfl | exact Sl.map (by assumption) rfl | exact Sl.len (by assumption) rfl) ?_)
          refine pops.nil ?_
          repeat (first | refine zA ?_ | refine zB ?_ | refine zC ?_ | refine zD ?_ | refine zE ?_ | refine zF ?_ | refine zG rfl ?_ | refine zH ?_ | refine zI ?_ | refine zJ ?_ | refine zK ?_ | refine zL ?_ | refine zM ?_ | refine zN ?_ | refine zO ?_)
          refine pcond.t rfl ?_
          repeat (first | refine zA ?_ | refine zB ?_ | refine zC ?_ | refine zD ?_ | refine zE ?_ | refine zF ?_ | refine zG rfl ?_ | refine zH ?_ | refine zI ?_ | refine zJ ?_ | refine zK ?_ | refine zL ?_ | refine zM ?_ | refine zN ?_ | refine zO ?_)
          repeat (first | refine zT rfl rfl rfl rfl rfl rfl (cbin_inc (by omega)) ?_ | refine zP rfl rfl rfl rfl rfl ?_ | refine zQ rfl rfl rfl ?_ | refine zR rfl rfl rfl rfl rfl (by first | assumption | exact cload_of (by assumption) rfl) ?_ | refine zS rfl rfl rfl rfl rfl rfl rfl rfl (by first | exact SlA.len (by assumption) rfl | exact Sl.map (by assumption) rfl | exact Sl.len (by assumption) rfl) ?_)
          refine pops.nil ?_
          repeat (first | refine zA ?_ | refine zB ?_ | refine zC ?_ | refine zD ?_ | refine zE ?_ | refine zF ?_ | refine zG rfl ?_ | refine zH ?_ | refine zI ?_ | refine zJ ?_ | refine zK ?_ | refine zL ?_ | refine zM ?_ | refine zN ?_ | refine zO ?_)
          refine pleave.r rfl ?_
          refine ⟨?_, g02.trans g07⟩
          rw [bad2 (fun hh => hh.2 q6 q7)]
        · have q7 := of_decide_eq_false q7
          repeat (first | refine zT rfl rfl rfl rfl rfl rfl (cbin_inc (by omega)) ?_ | refine zP rfl rfl rfl rfl rfl ?_ | refine zQ rfl rfl rfl ?_ | refine zR rfl rfl rfl rfl rfl (by first | assumption | exact cload_of (by assumption) rfl) ?_ | refine zS rfl rfl rfl rfl rfl rfl rfl rfl (by first | exact SlA.len (by assumption) rfl | exact Sl.map (by assumption) rfl | exact Sl.len (by assumption) rfl) ?_)
          refine pops.nil ?_
          repeat (first | refine zA ?_ | refine zB ?_ | refine zC ?_ | refine zD ?_ | refine zE ?_ | refine zF ?_ | refine zG rfl ?_ | refine zH ?_ | refine zI ?_ | refine zJ ?_ | refine zK ?_ | refine zL ?_ | refine zM ?_ | refine zN ?_ | refine zO ?_)
          refine pcond.f rfl ?_
          repeat (first | refine zA ?_ | refine zB ?_ | refine zC ?_ | refine zD ?_ | refine zE ?_ | refine zF ?_ | refine zG rfl ?_ | refine zH ?_ | refine zI ?_ | refine zJ ?_ | refine zK ?_ | refine zL ?_ | refine zM ?_ | refine zN ?_ | refine zO ?_)
          repeat (first | refine zT rfl rfl rfl rfl rfl rfl (cbin_inc (by omega)) ?_ | refine zP rfl rfl rfl rfl rfl ?_ | refine zQ rfl rfl rfl ?_ | refine zR rfl rfl rfl rfl rfl (by first | assumption | exact cload_of (by assumption) rfl) ?_ | refine zS rfl rfl rfl rfl rfl rfl rfl rfl (by first | exact SlA.len (by assumption) rfl | exact Sl.map (by assumption) rfl | exact Sl.len (by assumption) rfl) ?_)
          refine pops.nil ?_
          refine .n ⟨_, i + 1, rfl, ⟨rfl, rfl, rfl, rfl, rfl, trivial⟩, (by show p.spans.length - (i + 1) < p.spans.length - i; omega), by omega, g07, next ⟨by omega, fun _ => q7⟩⟩
      · have q6 := of_decide_eq_false q6
        repeat (first | refine zT rfl rfl rfl rfl rfl rfl (cbin_inc (by omega)) ?_ | refine zP rfl rfl rfl rfl rfl ?_ | refine zQ rfl rfl rfl ?_ | refine zR rfl rfl rfl rfl rfl (by first | assumption | exact cload_of (by assumption) rfl) ?_ | refine zS rfl rfl rfl rfl rfl rfl rfl rfl (by first | exact SlA.len (by assumption) rfl | exact Sl.map (by assumption) rfl | exact Sl.len (by assumption) rfl) ?_)
        refine pops.nil ?_
        repeat (first | refine zA ?_ | refine zB ?_ | refine zC ?_ | refine zD ?_ | refine zE ?_ | refine zF ?_ | refine zG rfl ?_ | refine zH ?_ | refine zI ?_ | refine zJ ?_ | refine zK ?_ | refine zL ?_ | refine zM ?_ | refine zN ?_ | refine zO ?_)
        refine pcond.f rfl ?_
        repeat (first | refine zA ?_ | refine zB ?_ | refine zC ?_ | refine zD ?_ | refine zE ?_ | refine zF ?_ | refine zG rfl ?_ | refine zH ?_ | refine zI ?_ | refine zJ ?_ | refine zK ?_ | refine zL ?_ | refine zM ?_ | refine zN ?_ | refine zO ?_)
        repeat (first | refine zT rfl rfl rfl rfl rfl rfl (cbin_inc (by omega)) ?_ | refine zP rfl rfl rfl rfl rfl ?_ | refine zQ rfl rfl rfl ?_ | refine zR rfl rfl rfl rfl rfl (by first | assumption | exact cload_of (by assumption) rfl) ?_ | refine zS rfl rfl rfl rfl rfl rfl rfl rfl (by first | exact SlA.len (by assumption) rfl | exact Sl.map (by assumption) rfl | exact Sl.len (by assumption) rfl) ?_)
        refine pops.nil ?_
        refine .n ⟨_, i + 1, rfl, ⟨rfl, rfl, rfl, rfl, rfl, trivial⟩, (by show p.spans.length - (i + 1) < p.spans.length - i; omega), by omega, g07, next ⟨by omega, fun hh => absurd hh q6⟩⟩
  · repeat (first | refine zA ?_ | refine zB ?_ | refine zC ?_ | refine zD ?_ | refine zE ?_ | refine zF ?_ | refine zG rfl ?_ | refine zH ?_ | refine zI ?_ | refine zJ ?_ | refine zK ?_ | refine zL ?_ | refine zM ?_ | refine zN ?_ | refine zO ?_)
    repeat (first | refine zT rfl rfl rfl rfl rfl rfl (cbin_inc (by omega)) ?_ | refine zP rfl rfl rfl rfl rfl ?_ | refine zQ rfl rfl rfl ?_ | refine zR rfl rfl rfl rfl rfl (by first | assumption | exact cload_of (by assumption) rfl) ?_ | refine zS rfl rfl rfl rfl rfl rfl rfl rfl (by first | exact SlA.len (by assumption) rfl | exact Sl.map (by assumption) rfl | exact Sl.len (by assumption) rfl) ?_)
    refine pops.nil ?_
    repeat (first | refine zA ?_ | refine zB ?_ | refine zC ?_ | refine zD ?_ | refine zE ?_ | refine zF ?_ | refine zG rfl ?_ | refine zH ?_ | refine zI ?_ | refine zJ ?_ | refine zK ?_ | refine zL ?_ | refine zM ?_ | refine zN ?_ | refine zO ?_)
    refine pleave.r rfl ?_
    refine ⟨?_, g02.trans g⟩
    rw [tt_t (p := PropP p) ⟨hN, fun j x hx => hall j x (by have := (List.getElem?_eq_some_iff.1 hx).1; omega) hx⟩]
end Go.Proofs.YtpcoponpfhnhlaaGreatDoor
set_option maxRecDepth 100000
set_option linter.unusedVariables false
set_option linter.unusedSimpArgs false
namespace Go.Proofs.YtpcoponpfhnhlaaGreatDoor
open Go.Cx
variable {w : World} {h : CH}
theorem fn_named10 : tab.fn 153 = some Tryz.f153 := by kernel_rfl
theorem named10_calls (s : ByteArray) (hl : s.data.toList.length < 9223372036854775808) : CalF (X w) 153 [.string s] h fun r h' => r = .ret (.bool (namedB s)) ∧ Gr h h' := by
  refine CalF.intro fn_named10 rfl (Nat.le_of_ble_eq_true rfl) ?_
  repeat (first | refine zA ?_ | refine zB ?_ | refine zC ?_ | refine zD ?_ | refine zE ?_ | refine zF ?_ | refine zG rfl ?_ | refine zH ?_ | refine zI ?_ | refine zJ ?_ | refine zK ?_ | refine zL ?_ | refine zM ?_ | refine zN ?_ | refine zO ?_)
  refine zP rfl rfl rfl rfl rfl ?_
  refine pops.nil ?_
  repeat (first | refine zA ?_ | refine zB ?_ | refine zC ?_ | refine zD ?_ | refine zE ?_ | refine zF ?_ | refine zG rfl ?_ | refine zH ?_ | refine zI ?_ | refine zJ ?_ | refine zK ?_ | refine zL ?_ | refine zM ?_ | refine zN ?_ | refine zO ?_)
  repeat (first | refine zT rfl rfl rfl rfl rfl rfl (cbin_inc (by omega)) ?_ | refine zY rfl rfl rfl rfl rfl rfl ?_ | refine zQ rfl rfl rfl ?_ | refine zR rfl rfl rfl rfl rfl (by first | assumption | exact cload_of (by assumption) rfl) ?_ | refine zS rfl rfl rfl rfl rfl rfl rfl rfl (by first | exact SlA.len (by assumption) rfl | exact Sl.map (by assumption) rfl | exact Sl.len (by assumption) rfl) ?_)
  refine zZ rfl rfl rfl rfl rfl (fun q1 => ?_) (fun q1 => ?_)
  · have q1 := of_decide_eq_true q1
    repeat (first | refine zT rfl rfl rfl rfl rfl rfl (cbin_inc (by omega)) ?_ | refine zP rfl rfl rfl rfl rfl ?_ | refine zQ rfl rfl rfl ?_ | refine zR rfl rfl rfl rfl rfl (by first | assumption | exact cload_of (by assumption) rfl) ?_ | refine zS rfl rfl rfl rfl rfl rfl rfl rfl (by first | exact SlA.len (by assumption) rfl | exact Sl.map (by assumption) rfl | exact Sl.len (by assumption) rfl) ?_)
    refine pops.nil ?_
    repeat (first | refine zA ?_ | refine zB ?_ | refine zC ?_ | refine zD ?_ | refine zE ?_ | refine zF ?_ | refine zG rfl ?_ | refine zH ?_ | refine zI ?_ | refine zJ ?_ | refine zK ?_ | refine zL ?_ | refine zM ?_ | refine zN ?_ | refine zO ?_)
    refine pcond.t rfl ?_
    repeat (first | refine zA ?_ | refine zB ?_ | refine zC ?_ | refine zD ?_ | refine zE ?_ | refine zF ?_ | refine zG rfl ?_ | refine zH ?_ | refine zI ?_ | refine zJ ?_ | refine zK ?_ | refine zL ?_ | refine zM ?_ | refine zN ?_ | refine zO ?_)
    repeat (first | refine zT rfl rfl rfl rfl rfl rfl (cbin_inc (by omega)) ?_ | refine zP rfl rfl rfl rfl rfl ?_ | refine zQ rfl rfl rfl ?_ | refine zR rfl rfl rfl rfl rfl (by first | assumption | exact cload_of (by assumption) rfl) ?_ | refine zS rfl rfl rfl rfl rfl rfl rfl rfl (by first | exact SlA.len (by assumption) rfl | exact Sl.map (by assumption) rfl | exact Sl.len (by assumption) rfl) ?_)
    refine pops.nil ?_
    repeat (first | refine zA ?_ | refine zB ?_ | refine zC ?_ | refine zD ?_ | refine zE ?_ | refine zF ?_ | refine zG rfl ?_ | refine zH ?_ | refine zI ?_ | refine zJ ?_ | refine zK ?_ | refine zL ?_ | refine zM ?_ | refine zN ?_ | refine zO ?_)
    refine pleave.r rfl ?_
    refine ⟨?_, Gr.refl _⟩
    unfold namedB
    rw [decide_eq_false (show ¬ 1 ≤ s.data.toList.length by omega), Bool.and_false]
    rfl
  have q1 := of_decide_eq_false q1
  repeat (first | refine zT rfl rfl rfl rfl rfl rfl (cbin_inc (by omega)) ?_ | refine zY rfl rfl rfl rfl rfl rfl ?_ | refine zQ rfl rfl rfl ?_ | refine zR rfl rfl rfl rfl rfl (by first | assumption | exact cload_of (by assumption) rfl) ?_ | refine zS rfl rfl rfl rfl rfl rfl rfl rfl (by first | exact SlA.len (by assumption) rfl | exact Sl.map (by assumption) rfl | exact Sl.len (by assumption) rfl) ?_)
  refine zZ rfl rfl rfl rfl rfl (fun q2 => ?_) (fun q2 => ?_)
  · have q2 := of_decide_eq_true q2
    repeat (first | refine zT rfl rfl rfl rfl rfl rfl (cbin_inc (by omega)) ?_ | refine zP rfl rfl rfl rfl rfl ?_ | refine zQ rfl rfl rfl ?_ | refine zR rfl rfl rfl rfl rfl (by first | assumption | exact cload_of (by assumption) rfl) ?_ | refine zS rfl rfl rfl rfl rfl rfl rfl rfl (by first | exact SlA.len (by assumption) rfl | exact Sl.map (by assumption) rfl | exact Sl.len (by assumption) rfl) ?_)
    refine pops.nil ?_
    repeat (first | refine zA ?_ | refine zB ?_ | refine zC ?_ | refine zD ?_ | refine zE ?_ | refine zF ?_ | refine zG rfl ?_ | refine zH ?_ | refine zI ?_ | refine zJ ?_ | refine zK ?_ | refine zL ?_ | refine zM ?_ | refine zN ?_ | refine zO ?_)
    refine pcond.t rfl ?_
    repeat (first | refine zA ?_ | refine zB ?_ | refine zC ?_ | refine zD ?_ | refine zE ?_ | refine zF ?_ | refine zG rfl ?_ | refine zH ?_ | refine zI ?_ | refine zJ ?_ | refine zK ?_ | refine zL ?_ | refine zM ?_ | refine zN ?_ | refine zO ?_)
    repeat (first | refine zT rfl rfl rfl rfl rfl rfl (cbin_inc (by omega)) ?_ | refine zP rfl rfl rfl rfl rfl ?_ | refine zQ rfl rfl rfl ?_ | refine zR rfl rfl rfl rfl rfl (by first | assumption | exact cload_of (by assumption) rfl) ?_ | refine zS rfl rfl rfl rfl rfl rfl rfl rfl (by first | exact SlA.len (by assumption) rfl | exact Sl.map (by assumption) rfl | exact Sl.len (by assumption) rfl) ?_)
    refine pops.nil ?_
    repeat (first | refine zA ?_ | refine zB ?_ | refine zC ?_ | refine zD ?_ | refine zE ?_ | refine zF ?_ | refine zG rfl ?_ | refine zH ?_ | refine zI ?_ | refine zJ ?_ | refine zK ?_ | refine zL ?_ | refine zM ?_ | refine zN ?_ | refine zO ?_)
    refine pleave.r rfl ?_
    refine ⟨?_, Gr.refl _⟩
    unfold namedB
    rw [decide_eq_false (show ¬ s.data.toList.length ≤ 32 by omega), Bool.and_false]
  have q2 := of_decide_eq_false q2
  repeat (first | refine zT rfl rfl rfl rfl rfl rfl (cbin_inc (by omega)) ?_ | refine zP rfl rfl rfl rfl rfl ?_ | refine zQ rfl rfl rfl ?_ | refine zR rfl rfl rfl rfl rfl (by first | assumption | exact cload_of (by assumption) rfl) ?_ | refine zS rfl rfl rfl rfl rfl rfl rfl rfl (by first | exact SlA.len (by assumption) rfl | exact Sl.map (by assumption) rfl | exact Sl.len (by assumption) rfl) ?_)
  refine pops.nil ?_
  repeat (first | refine zA ?_ | refine zB ?_ | refine zC ?_ | refine zD ?_ | refine zE ?_ | refine zF ?_ | refine zG rfl ?_ | refine zH ?_ | refine zI ?_ | refine zJ ?_ | refine zK ?_ | refine zL ?_ | refine zM ?_ | refine zN ?_ | refine zO ?_)
  refine pcond.f rfl ?_
  repeat (first | refine zA ?_ | refine zB ?_ | refine zC ?_ | refine zD ?_ | refine zE ?_ | refine zF ?_ | refine zG rfl ?_ | refine zH ?_ | refine zI ?_ | refine zJ ?_ | refine zK ?_ | refine zL ?_ | refine zM ?_ | refine zN ?_ | refine zO ?_)
  repeat (first | refine zT rfl rfl rfl rfl rfl rfl (cbin_inc (by omega)) ?_ | refine zP rfl rfl rfl rfl rfl ?_ | refine zQ rfl rfl rfl ?_ | refine zR rfl rfl rfl rfl rfl (by first | assumption | exact cload_of (by assumption) rfl) ?_ | refine zS rfl rfl rfl rfl rfl rfl rfl rfl (by first | exact SlA.len (by assumption) rfl | exact Sl.map (by assumption) rfl | exact Sl.len (by assumption) rfl) ?_)
  refine pops.nil ?_
  repeat (first | refine zA ?_ | refine zB ?_ | refine zC ?_ | refine zD ?_ | refine zE ?_ | refine zF ?_ | refine zG rfl ?_ | refine zH ?_ | refine zI ?_ | refine zJ ?_ | refine zK ?_ | refine zL ?_ | refine zM ?_ | refine zN ?_ | refine zO ?_)
  refine Loops.ind 6 (fun i : Nat => [(0, .string s), (2, .bool false), (3, .int .i64 (i : Nat))])
    (fun i h' => i ≤ s.data.toList.length ∧ h' = h ∧ ∀ j c, j < i → s.data.toList[j]? = some c → letterB c.toNat = true) (fun i => s.data.toList.length - i) 0 (by decide) ⟨rfl, rfl, rfl, trivial⟩ ⟨Nat.zero_le _, rfl, fun j x hj => absurd hj (Nat.not_lt_zero j)⟩ ?_
  rintro i z h' hwf' ⟨hi, rfl, hall⟩
  repeat (first | refine zA ?_ | refine zB ?_ | refine zC ?_ | refine zD ?_ | refine zE ?_ | refine zF ?_ | refine zG rfl ?_ | refine zH ?_ | refine zI ?_ | refine zJ ?_ | refine zK ?_ | refine zL ?_ | refine zM ?_ | refine zN ?_ | refine zO ?_)
  repeat (first | refine zT rfl rfl rfl rfl rfl rfl (cbin_inc (by omega)) ?_ | refine zP rfl rfl rfl rfl rfl ?_ | refine zQ rfl rfl rfl ?_ | refine zR rfl rfl rfl rfl rfl (by first | assumption | exact cload_of (by assumption) rfl) ?_ | refine zS rfl rfl rfl rfl rfl rfl rfl rfl (by first | exact SlA.len (by assumption) rfl | exact Sl.map (by assumption) rfl | exact Sl.len (by assumption) rfl) ?_)
  refine pops.nil ?_
  repeat (first | refine zA ?_ | refine zB ?_ | refine zC ?_ | refine zD ?_ | refine zE ?_ | refine zF ?_ | refine zG rfl ?_ | refine zH ?_ | refine zI ?_ | refine zJ ?_ | refine zK ?_ | refine zL ?_ | refine zM ?_ | refine zN ?_ | refine zO ?_)
  refine pcond.d (p := (i : Int) < (s.data.toList.length : Nat)) rfl (fun hlt => ?_) (fun hge => ?_)
  · have hlt : i < s.data.toList.length := by omega
    obtain ⟨c, hc⟩ : ∃ c, s.data.toList[i]? = some c := ⟨_, List.getElem?_eq_getElem hlt⟩
    clear q1 q2
    repeat (first | refine zA ?_ | refine zB ?_ | refine zC ?_ | refine zD ?_ | refine zE ?_ | refine zF ?_ | refine zG rfl ?_ | refine zH ?_ | refine zI ?_ | refine zJ ?_ | refine zK ?_ | refine zL ?_ | refine zM ?_ | refine zN ?_ | refine zO ?_)
    refine zP rfl rfl rfl rfl rfl ?_
    refine zP rfl rfl rfl rfl rfl ?_
    refine pops.index rfl rfl rfl rfl rfl rfl (v := .int .u8 c.toNat) (cindex_str rfl hc) ?_
    refine zP rfl rfl rfl rfl rfl ?_
    refine pops.nil ?_
    repeat (first | refine zA ?_ | refine zB ?_ | refine zC ?_ | refine zD ?_ | refine zE ?_ | refine zF ?_ | refine zG rfl ?_ | refine zH ?_ | refine zI ?_ | refine zJ ?_ | refine zK ?_ | refine zL ?_ | refine zM ?_ | refine zN ?_ | refine zO ?_)
    repeat' (first | refine zZ rfl rfl rfl rfl rfl (fun _ => ?_) (fun _ => ?_) | refine zP rfl rfl rfl rfl rfl ?_ | refine zQ rfl rfl rfl ?_)
    all_goals (refine pops.nil ?_)
    all_goals (repeat (first | refine zA ?_ | refine zB ?_ | refine zC ?_ | refine zD ?_ | refine zE ?_ | refine zF ?_ | refine zG rfl ?_ | refine zH ?_ | refine zI ?_ | refine zJ ?_ | refine zK ?_ | refine zL ?_ | refine zM ?_ | refine zN ?_ | refine zO ?_))
    all_goals first | refine pcond.t rfl ?_ | refine pcond.f rfl ?_
    all_goals (repeat (first | refine zA ?_ | refine zB ?_ | refine zC ?_ | refine zD ?_ | refine zE ?_ | refine zF ?_ | refine zG rfl ?_ | refine zH ?_ | refine zI ?_ | refine zJ ?_ | refine zK ?_ | refine zL ?_ | refine zM ?_ | refine zN ?_ | refine zO ?_))
    all_goals (repeat (first | refine zT rfl rfl rfl rfl rfl rfl (cbin_inc (by omega)) ?_ | refine zP rfl rfl rfl rfl rfl ?_ | refine zQ rfl rfl rfl ?_ | refine zR rfl rfl rfl rfl rfl (by first | assumption | exact cload_of (by assumption) rfl) ?_ | refine zS rfl rfl rfl rfl rfl rfl rfl rfl (by first | exact SlA.len (by assumption) rfl | exact Sl.map (by assumption) rfl | exact Sl.len (by assumption) rfl) ?_))
    all_goals (refine pops.nil ?_)
    all_goals (repeat (first | refine zA ?_ | refine zB ?_ | refine zC ?_ | refine zD ?_ | refine zE ?_ | refine zF ?_ | refine zG rfl ?_ | refine zH ?_ | refine zI ?_ | refine zJ ?_ | refine zK ?_ | refine zL ?_ | refine zM ?_ | refine zN ?_ | refine zO ?_))
    all_goals try (refine pleave.r rfl ?_)
    all_goals first | (refine ⟨_, i + 1, rfl, ⟨rfl, rfl, rfl, trivial⟩, (by show s.data.toList.length - (i + 1) < s.data.toList.length - i; omega), by omega, rfl, all_next hall hc ?_⟩; clear hall hc hl hi hlt hwf'; simp_all only [letterB, Bool.true_or, Bool.or_true, Bool.and_self, Bool.and_true, Bool.true_and, Bool.or_false, Bool.false_or, Bool.and_false, Bool.false_and, ge_iff_le]; done) | refine ⟨?_, Gr.refl _⟩
    all_goals (have : letterB c.toNat = false := by (clear hall hc hl hi hlt hwf'; simp_all [letterB]; try omega))
    all_goals (have : (s.data.toList.all fun c => letterB c.toNat) = false := by rw [List.all_eq_false]; exact ⟨c, List.mem_of_getElem? hc, by simp [this]⟩)
    all_goals (congr 2; unfold namedB; rw [this]; rfl)
  · repeat (first | refine zA ?_ | refine zB ?_ | refine zC ?_ | refine zD ?_ | refine zE ?_ | refine zF ?_ | refine zG rfl ?_ | refine zH ?_ | refine zI ?_ | refine zJ ?_ | refine zK ?_ | refine zL ?_ | refine zM ?_ | refine zN ?_ | refine zO ?_)
    repeat (first | refine zT rfl rfl rfl rfl rfl rfl (cbin_inc (by omega)) ?_ | refine zP rfl rfl rfl rfl rfl ?_ | refine zQ rfl rfl rfl ?_ | refine zR rfl rfl rfl rfl rfl (by first | assumption | exact cload_of (by assumption) rfl) ?_ | refine zS rfl rfl rfl rfl rfl rfl rfl rfl (by first | exact SlA.len (by assumption) rfl | exact Sl.map (by assumption) rfl | exact Sl.len (by assumption) rfl) ?_)
    refine pops.nil ?_
    repeat (first | refine zA ?_ | refine zB ?_ | refine zC ?_ | refine zD ?_ | refine zE ?_ | refine zF ?_ | refine zG rfl ?_ | refine zH ?_ | refine zI ?_ | refine zJ ?_ | refine zK ?_ | refine zL ?_ | refine zM ?_ | refine zN ?_ | refine zO ?_)
    refine pleave.r rfl ?_
    have hA : (s.data.toList.all fun c => letterB c.toNat) = true := by
      rw [List.all_eq_true]
      exact all_end hall (by omega)
    refine ⟨?_, Gr.refl _⟩
    unfold namedB
    rw [hA, decide_eq_true (show 1 ≤ s.data.toList.length by omega), decide_eq_true (show s.data.toList.length ≤ 32 by omega)]
    rfl
theorem fn_names10 : tab.fn 132 = some Tryz.f132 := by kernel_rfl
theorem names10_calls {v : Value} {l : List ByteArray} (hv : SlS tab 9 h v l) (hlen : TextsLt l) : CalF (X w) 132 [v] h fun r h' => r = .ret (.bool (tt (NamesQ l))) ∧ Gr h h' := by
  refine CalF.wf fun hwf => ?_
  have hlt := hv.lt
  refine CalF.intro fn_names10 rfl (Nat.le_of_ble_eq_true rfl) ?_
  repeat (first | refine zA ?_ | refine zB ?_ | refine zC ?_ | refine zD ?_ | refine zE ?_ | refine zF ?_ | refine zG rfl ?_ | refine zH ?_ | refine zI ?_ | refine zJ ?_ | refine zK ?_ | refine zL ?_ | refine zM ?_ | refine zN ?_ | refine zO ?_)
  repeat (first | refine zT rfl rfl rfl rfl rfl rfl (cbin_inc (by omega)) ?_ | refine zP rfl rfl rfl rfl rfl ?_ | refine zQ rfl rfl rfl ?_ | refine zR rfl rfl rfl rfl rfl (by first | assumption | exact cload_of (by assumption) rfl) ?_ | refine zS rfl rfl rfl rfl rfl rfl rfl rfl (by first | exact SlA.len (by assumption) rfl | exact Sl.map (by assumption) rfl | exact Sl.len (by assumption) rfl) ?_)
  refine pops.nil ?_
  repeat (first | refine zA ?_ | refine zB ?_ | refine zC ?_ | refine zD ?_ | refine zE ?_ | refine zF ?_ | refine zG rfl ?_ | refine zH ?_ | refine zI ?_ | refine zJ ?_ | refine zK ?_ | refine zL ?_ | refine zM ?_ | refine zN ?_ | refine zO ?_)
  repeat (first | refine zT rfl rfl rfl rfl rfl rfl (cbin_inc (by omega)) ?_ | refine zY rfl rfl rfl rfl rfl rfl ?_ | refine zQ rfl rfl rfl ?_ | refine zR rfl rfl rfl rfl rfl (by first | assumption | exact cload_of (by assumption) rfl) ?_ | refine zS rfl rfl rfl rfl rfl rfl rfl rfl (by first | exact SlA.len (by assumption) rfl | exact Sl.map (by assumption) rfl | exact Sl.len (by assumption) rfl) ?_)
  refine zZ rfl rfl rfl rfl rfl (fun q1 => ?_) (fun q1 => ?_)
  · have q1 := of_decide_eq_true q1
    repeat (first | refine zT rfl rfl rfl rfl rfl rfl (cbin_inc (by omega)) ?_ | refine zP rfl rfl rfl rfl rfl ?_ | refine zQ rfl rfl rfl ?_ | refine zR rfl rfl rfl rfl rfl (by first | assumption | exact cload_of (by assumption) rfl) ?_ | refine zS rfl rfl rfl rfl rfl rfl rfl rfl (by first | exact SlA.len (by assumption) rfl | exact Sl.map (by assumption) rfl | exact Sl.len (by assumption) rfl) ?_)
    refine pops.nil ?_
    repeat (first | refine zA ?_ | refine zB ?_ | refine zC ?_ | refine zD ?_ | refine zE ?_ | refine zF ?_ | refine zG rfl ?_ | refine zH ?_ | refine zI ?_ | refine zJ ?_ | refine zK ?_ | refine zL ?_ | refine zM ?_ | refine zN ?_ | refine zO ?_)
    refine pcond.t rfl ?_
    repeat (first | refine zA ?_ | refine zB ?_ | refine zC ?_ | refine zD ?_ | refine zE ?_ | refine zF ?_ | refine zG rfl ?_ | refine zH ?_ | refine zI ?_ | refine zJ ?_ | refine zK ?_ | refine zL ?_ | refine zM ?_ | refine zN ?_ | refine zO ?_)
    repeat (first | refine zT rfl rfl rfl rfl rfl rfl (cbin_inc (by omega)) ?_ | refine zP rfl rfl rfl rfl rfl ?_ | refine zQ rfl rfl rfl ?_ | refine zR rfl rfl rfl rfl rfl (by first | assumption | exact cload_of (by assumption) rfl) ?_ | refine zS rfl rfl rfl rfl rfl rfl rfl rfl (by first | exact SlA.len (by assumption) rfl | exact Sl.map (by assumption) rfl | exact Sl.len (by assumption) rfl) ?_)
    refine pops.nil ?_
    repeat (first | refine zA ?_ | refine zB ?_ | refine zC ?_ | refine zD ?_ | refine zE ?_ | refine zF ?_ | refine zG rfl ?_ | refine zH ?_ | refine zI ?_ | refine zJ ?_ | refine zK ?_ | refine zL ?_ | refine zM ?_ | refine zN ?_ | refine zO ?_)
    refine pleave.r rfl ?_
    refine ⟨?_, Gr.refl _⟩
    rw [tt_f (p := NamesQ l) (fun hN => by have := hN.2.2.1; omega)]
  have q1 := of_decide_eq_false q1
  repeat (first | refine zT rfl rfl rfl rfl rfl rfl (cbin_inc (by omega)) ?_ | refine zY rfl rfl rfl rfl rfl rfl ?_ | refine zQ rfl rfl rfl ?_ | refine zR rfl rfl rfl rfl rfl (by first | assumption | exact cload_of (by assumption) rfl) ?_ | refine zS rfl rfl rfl rfl rfl rfl rfl rfl (by first | exact SlA.len (by assumption) rfl | exact Sl.map (by assumption) rfl | exact Sl.len (by assumption) rfl) ?_)
  refine zZ rfl rfl rfl rfl rfl (fun q2 => ?_) (fun q2 => ?_)
  · have q2 := of_decide_eq_true q2
    repeat (first | refine zT rfl rfl rfl rfl rfl rfl (cbin_inc (by omega)) ?_ | refine zP rfl rfl rfl rfl rfl ?_ | refine zQ rfl rfl rfl ?_ | refine zR rfl rfl rfl rfl rfl (by first | assumption | exact cload_of (by assumption) rfl) ?_ | refine zS rfl rfl rfl rfl rfl rfl rfl rfl (by first | exact SlA.len (by assumption) rfl | exact Sl.map (by assumption) rfl | exact Sl.len (by assumption) rfl) ?_)
    refine pops.nil ?_
    repeat (first | refine zA ?_ | refine zB ?_ | refine zC ?_ | refine zD ?_ | refine zE ?_ | refine zF ?_ | refine zG rfl ?_ | refine zH ?_ | refine zI ?_ | refine zJ ?_ | refine zK ?_ | refine zL ?_ | refine zM ?_ | refine zN ?_ | refine zO ?_)
    refine pcond.t rfl ?_
    repeat (first | refine zA ?_ | refine zB ?_ | refine zC ?_ | refine zD ?_ | refine zE ?_ | refine zF ?_ | refine zG rfl ?_ | refine zH ?_ | refine zI ?_ | refine zJ ?_ | refine zK ?_ | refine zL ?_ | refine zM ?_ | refine zN ?_ | refine zO ?_)
    repeat (first | refine zT rfl rfl rfl rfl rfl rfl (cbin_inc (by omega)) ?_ | refine zP rfl rfl rfl rfl rfl ?_ | refine zQ rfl rfl rfl ?_ | refine zR rfl rfl rfl rfl rfl (by first | assumption | exact cload_of (by assumption) rfl) ?_ | refine zS rfl rfl rfl rfl rfl rfl rfl rfl (by first | exact SlA.len (by assumption) rfl | exact Sl.map (by assumption) rfl | exact Sl.len (by assumption) rfl) ?_)
    refine pops.nil ?_
    repeat (first | refine zA ?_ | refine zB ?_ | refine zC ?_ | refine zD ?_ | refine zE ?_ | refine zF ?_ | refine zG rfl ?_ | refine zH ?_ | refine zI ?_ | refine zJ ?_ | refine zK ?_ | refine zL ?_ | refine zM ?_ | refine zN ?_ | refine zO ?_)
    refine pleave.r rfl ?_
    refine ⟨?_, Gr.refl _⟩
    rw [tt_f (p := NamesQ l) (fun hN => by have := hN.2.2.2; omega)]
  have q2 := of_decide_eq_false q2
  repeat (first | refine zT rfl rfl rfl rfl rfl rfl (cbin_inc (by omega)) ?_ | refine zP rfl rfl rfl rfl rfl ?_ | refine zQ rfl rfl rfl ?_ | refine zR rfl rfl rfl rfl rfl (by first | assumption | exact cload_of (by assumption) rfl) ?_ | refine zS rfl rfl rfl rfl rfl rfl rfl rfl (by first | exact SlA.len (by assumption) rfl | exact Sl.map (by assumption) rfl | exact Sl.len (by assumption) rfl) ?_)
  refine pops.nil ?_
  repeat (first | refine zA ?_ | refine zB ?_ | refine zC ?_ | refine zD ?_ | refine zE ?_ | refine zF ?_ | refine zG rfl ?_ | refine zH ?_ | refine zI ?_ | refine zJ ?_ | refine zK ?_ | refine zL ?_ | refine zM ?_ | refine zN ?_ | refine zO ?_)
  refine pcond.f rfl ?_
  repeat (first | refine zA ?_ | refine zB ?_ | refine zC ?_ | refine zD ?_ | refine zE ?_ | refine zF ?_ | refine zG rfl ?_ | refine zH ?_ | refine zI ?_ | refine zJ ?_ | refine zK ?_ | refine zL ?_ | refine zM ?_ | refine zN ?_ | refine zO ?_)
  repeat (first | refine zT rfl rfl rfl rfl rfl rfl (cbin_inc (by omega)) ?_ | refine zP rfl rfl rfl rfl rfl ?_ | refine zQ rfl rfl rfl ?_ | refine zR rfl rfl rfl rfl rfl (by first | assumption | exact cload_of (by assumption) rfl) ?_ | refine zS rfl rfl rfl rfl rfl rfl rfl rfl (by first | exact SlA.len (by assumption) rfl | exact Sl.map (by assumption) rfl | exact Sl.len (by assumption) rfl) ?_)
  refine pops.nil ?_
  repeat (first | refine zA ?_ | refine zB ?_ | refine zC ?_ | refine zD ?_ | refine zE ?_ | refine zF ?_ | refine zG rfl ?_ | refine zH ?_ | refine zI ?_ | refine zJ ?_ | refine zK ?_ | refine zL ?_ | refine zM ?_ | refine zN ?_ | refine zO ?_)
  refine Loops.ind 6 (fun i : Nat => [(0, v), (2, .bool false), (3, .int .i64 (i : Nat))])
    (fun i h' => i ≤ l.length ∧ Gr h h' ∧ (∀ (j : Nat) s, j < i → l[j]? = some s → namedB s = true) ∧ ∀ (j k : Nat) x y, j < k → k < i → l[j]? = some x → l[k]? = some y → bytesBeq x.data.toList y.data.toList = false)
    (fun i => l.length - i) 0 (by decide) ⟨rfl, rfl, rfl, trivial⟩ ⟨Nat.zero_le _, Gr.refl _, all_none, fun j k x y h1 h2 => absurd h2 (Nat.not_lt_zero _)⟩ ?_
  rintro i z h' hwf' ⟨hi, g, hall, hdis⟩
  replace hv := Sl.gr hv hwf g
  repeat (first | refine zA ?_ | refine zB ?_ | refine zC ?_ | refine zD ?_ | refine zE ?_ | refine zF ?_ | refine zG rfl ?_ | refine zH ?_ | refine zI ?_ | refine zJ ?_ | refine zK ?_ | refine zL ?_ | refine zM ?_ | refine zN ?_ | refine zO ?_)
  repeat (first | refine zT rfl rfl rfl rfl rfl rfl (cbin_inc (by omega)) ?_ | refine zP rfl rfl rfl rfl rfl ?_ | refine zQ rfl rfl rfl ?_ | refine zR rfl rfl rfl rfl rfl (by first | assumption | exact cload_of (by assumption) rfl) ?_ | refine zS rfl rfl rfl rfl rfl rfl rfl rfl (by first | exact SlA.len (by assumption) rfl | exact Sl.map (by assumption) rfl | exact Sl.len (by assumption) rfl) ?_)
  refine pops.nil ?_
  repeat (first | refine zA ?_ | refine zB ?_ | refine zC ?_ | refine zD ?_ | refine zE ?_ | refine zF ?_ | refine zG rfl ?_ | refine zH ?_ | refine zI ?_ | refine zJ ?_ | refine zK ?_ | refine zL ?_ | refine zM ?_ | refine zN ?_ | refine zO ?_)
  refine pcond.d (p := (i : Int) < (l.length : Nat)) rfl (fun hlt' => ?_) (fun hge => ?_)
  · obtain ⟨s, hs⟩ : ∃ x, l[i]? = some x := ⟨_, List.getElem?_eq_getElem (by omega)⟩
    have hsm := List.mem_of_getElem? hs
    have hsl := hlen s hsm
    repeat (first | refine zA ?_ | refine zB ?_ | refine zC ?_ | refine zD ?_ | refine zE ?_ | refine zF ?_ | refine zG rfl ?_ | refine zH ?_ | refine zI ?_ | refine zJ ?_ | refine zK ?_ | refine zL ?_ | refine zM ?_ | refine zN ?_ | refine zO ?_)
    refine zP rfl rfl rfl rfl rfl ?_
    refine zP rfl rfl rfl rfl rfl ?_
    refine pops.atI (f := Value.string) rfl rfl rfl rfl rfl rfl rfl hv hs fun q hq => ?_
    refine zR rfl rfl rfl rfl rfl (by first | assumption | exact cload_of (by assumption) rfl) ?_
    refine pops.callG rfl rfl rfl rfl rfl fn_named10 rfl rfl rfl (named10_calls s hsl) fun h2 hwf2 g2 => ?_
    replace hv := Sl.gr hv hwf' g2
    cases hn : namedB s with
    | false =>
      repeat (first | refine zT rfl rfl rfl rfl rfl rfl (cbin_inc (by omega)) ?_ | refine zP rfl rfl rfl rfl rfl ?_ | refine zQ rfl rfl rfl ?_ | refine zR rfl rfl rfl rfl rfl (by first | assumption | exact cload_of (by assumption) rfl) ?_ | refine zS rfl rfl rfl rfl rfl rfl rfl rfl (by first | exact SlA.len (by assumption) rfl | exact Sl.map (by assumption) rfl | exact Sl.len (by assumption) rfl) ?_)
      refine pops.nil ?_
      repeat (first | refine zA ?_ | refine zB ?_ | refine zC ?_ | refine zD ?_ | refine zE ?_ | refine zF ?_ | refine zG rfl ?_ | refine zH ?_ | refine zI ?_ | refine zJ ?_ | refine zK ?_ | refine zL ?_ | refine zM ?_ | refine zN ?_ | refine zO ?_)
      refine pcond.t rfl ?_
      repeat (first | refine zA ?_ | refine zB ?_ | refine zC ?_ | refine zD ?_ | refine zE ?_ | refine zF ?_ | refine zG rfl ?_ | refine zH ?_ | refine zI ?_ | refine zJ ?_ | refine zK ?_ | refine zL ?_ | refine zM ?_ | refine zN ?_ | refine zO ?_)
      repeat (first | refine zT rfl rfl rfl rfl rfl rfl (cbin_inc (by omega)) ?_ | refine zP rfl rfl rfl rfl rfl ?_ | refine zQ rfl rfl rfl ?_ | refine zR rfl rfl rfl rfl rfl (by first | assumption | exact cload_of (by assumption) rfl) ?_ | refine zS rfl rfl rfl rfl rfl rfl rfl rfl (by first | exact SlA.len (by assumption) rfl | exact Sl.map (by assumption) rfl | exact Sl.len (by assumption) rfl) ?_)
      refine pops.nil ?_
      repeat (first | refine zA ?_ | refine zB ?_ | refine zC ?_ | refine zD ?_ | refine zE ?_ | refine zF ?_ | refine zG rfl ?_ | refine zH ?_ | refine zI ?_ | refine zJ ?_ | refine zK ?_ | refine zL ?_ | refine zM ?_ | refine zN ?_ | refine zO ?_)
      refine pleave.r rfl ?_
      refine ⟨?_, g.trans g2⟩
      rw [tt_f (p := NamesQ l) (fun hN => by have := hN.1 s hsm; rw [hn] at this; cases this)]
    | true =>
    repeat (first | refine zT rfl rfl rfl rfl rfl rfl (cbin_inc (by omega)) ?_ | refine zP rfl rfl rfl rfl rfl ?_ | refine zQ rfl rfl rfl ?_ | refine zR rfl rfl rfl rfl rfl (by first | assumption | exact cload_of (by assumption) rfl) ?_ | refine zS rfl rfl rfl rfl rfl rfl rfl rfl (by first | exact SlA.len (by assumption) rfl | exact Sl.map (by assumption) rfl | exact Sl.len (by assumption) rfl) ?_)
    refine pops.nil ?_
    repeat (first | refine zA ?_ | refine zB ?_ | refine zC ?_ | refine zD ?_ | refine zE ?_ | refine zF ?_ | refine zG rfl ?_ | refine zH ?_ | refine zI ?_ | refine zJ ?_ | refine zK ?_ | refine zL ?_ | refine zM ?_ | refine zN ?_ | refine zO ?_)
    refine pcond.f rfl ?_
    repeat (first | refine zA ?_ | refine zB ?_ | refine zC ?_ | refine zD ?_ | refine zE ?_ | refine zF ?_ | refine zG rfl ?_ | refine zH ?_ | refine zI ?_ | refine zJ ?_ | refine zK ?_ | refine zL ?_ | refine zM ?_ | refine zN ?_ | refine zO ?_)
    repeat (first | refine zT rfl rfl rfl rfl rfl rfl (cbin_inc (by omega)) ?_ | refine zP rfl rfl rfl rfl rfl ?_ | refine zQ rfl rfl rfl ?_ | refine zR rfl rfl rfl rfl rfl (by first | assumption | exact cload_of (by assumption) rfl) ?_ | refine zS rfl rfl rfl rfl rfl rfl rfl rfl (by first | exact SlA.len (by assumption) rfl | exact Sl.map (by assumption) rfl | exact Sl.len (by assumption) rfl) ?_)
    refine pops.nil ?_
    repeat (first | refine zA ?_ | refine zB ?_ | refine zC ?_ | refine zD ?_ | refine zE ?_ | refine zF ?_ | refine zG rfl ?_ | refine zH ?_ | refine zI ?_ | refine zJ ?_ | refine zK ?_ | refine zL ?_ | refine zM ?_ | refine zN ?_ | refine zO ?_)
    refine Loops.ind 6 (fun k : Nat => [(0, v), (2, .bool false), (3, .int .i64 (i : Nat)), (4, .int .i64 (k : Nat))])
      (fun k h3 => k ≤ i ∧ h3 = h2 ∧ ∀ (j : Nat) x, j < k → l[j]? = some x → bytesBeq x.data.toList s.data.toList = false)
      (fun k => i - k) 0 (by decide) ⟨rfl, rfl, rfl, rfl, trivial⟩ ⟨Nat.zero_le _, rfl, all_none⟩ ?_
    rintro k z' h3 hwf3 ⟨hk, rfl, hall2⟩
    repeat (first | refine zA ?_ | refine zB ?_ | refine zC ?_ | refine zD ?_ | refine zE ?_ | refine zF ?_ | refine zG rfl ?_ | refine zH ?_ | refine zI ?_ | refine zJ ?_ | refine zK ?_ | refine zL ?_ | refine zM ?_ | refine zN ?_ | refine zO ?_)
    repeat (first | refine zT rfl rfl rfl rfl rfl rfl (cbin_inc (by omega)) ?_ | refine zP rfl rfl rfl rfl rfl ?_ | refine zQ rfl rfl rfl ?_ | refine zR rfl rfl rfl rfl rfl (by first | assumption | exact cload_of (by assumption) rfl) ?_ | refine zS rfl rfl rfl rfl rfl rfl rfl rfl (by first | exact SlA.len (by assumption) rfl | exact Sl.map (by assumption) rfl | exact Sl.len (by assumption) rfl) ?_)
    refine pops.nil ?_
    repeat (first | refine zA ?_ | refine zB ?_ | refine zC ?_ | refine zD ?_ | refine zE ?_ | refine zF ?_ | refine zG rfl ?_ | refine zH ?_ | refine zI ?_ | refine zJ ?_ | refine zK ?_ | refine zL ?_ | refine zM ?_ | refine zN ?_ | refine zO ?_)
    refine pcond.d (p := (k : Int) < (i : Nat)) rfl (fun hlt2 => ?_) (fun hge2 => ?_)
    · have hki : k < i := by omega
      obtain ⟨x, hx⟩ : ∃ x, l[k]? = some x := ⟨_, List.getElem?_eq_getElem (by omega)⟩
      obtain ⟨p1, hp1, hq1⟩ := Sl.readM hv hwf3 (ts := 22) rfl hx .i64
      obtain ⟨p2, hp2, hq2⟩ := Sl.readM hv hwf3 (ts := 22) rfl hs .i64
      repeat (first | refine zA ?_ | refine zB ?_ | refine zC ?_ | refine zD ?_ | refine zE ?_ | refine zF ?_ | refine zG rfl ?_ | refine zH ?_ | refine zI ?_ | refine zJ ?_ | refine zK ?_ | refine zL ?_ | refine zM ?_ | refine zN ?_ | refine zO ?_)
      refine PG.start _ rfl rfl ?_
      refine zV (by decide +kernel) rfl rfl rfl rfl ?_
      refine zV (by decide +kernel) rfl rfl rfl rfl ?_
      refine zV (by decide +kernel) rfl rfl rfl (hp1) ?_
      refine zV (by decide +kernel) rfl rfl rfl (hq1 _ (Gr.refl _)) ?_
      refine zV (by decide +kernel) rfl rfl rfl rfl ?_
      refine zV (by decide +kernel) rfl rfl rfl rfl ?_
      refine zV (by decide +kernel) rfl rfl rfl (hp2) ?_
      refine zV (by decide +kernel) rfl rfl rfl (hq2 _ (Gr.refl _)) ?_
      cases hbb : bytesBeq x.data.toList s.data.toList with
      | true =>
        refine zV (by decide +kernel) rfl rfl rfl (congrArg (fun b => some (Value.bool b)) hbb) ?_
        refine PG.nil ?_
        refine pd1.fin (by kernel_rfl) (by kernel_rfl) ?_
        repeat (first | refine zA ?_ | refine zB ?_ | refine zC ?_ | refine zD ?_ | refine zE ?_ | refine zF ?_ | refine zG rfl ?_ | refine zH ?_ | refine zI ?_ | refine zJ ?_ | refine zK ?_ | refine zL ?_ | refine zM ?_ | refine zN ?_ | refine zO ?_)
        refine pcond.t rfl ?_
        repeat (first | refine zA ?_ | refine zB ?_ | refine zC ?_ | refine zD ?_ | refine zE ?_ | refine zF ?_ | refine zG rfl ?_ | refine zH ?_ | refine zI ?_ | refine zJ ?_ | refine zK ?_ | refine zL ?_ | refine zM ?_ | refine zN ?_ | refine zO ?_)
        repeat (first | refine zT rfl rfl rfl rfl rfl rfl (cbin_inc (by omega)) ?_ | refine zP rfl rfl rfl rfl rfl ?_ | refine zQ rfl rfl rfl ?_ | refine zR rfl rfl rfl rfl rfl (by first | assumption | exact cload_of (by assumption) rfl) ?_ | refine zS rfl rfl rfl rfl rfl rfl rfl rfl (by first | exact SlA.len (by assumption) rfl | exact Sl.map (by assumption) rfl | exact Sl.len (by assumption) rfl) ?_)
        refine pops.nil ?_
        repeat (first | refine zA ?_ | refine zB ?_ | refine zC ?_ | refine zD ?_ | refine zE ?_ | refine zF ?_ | refine zG rfl ?_ | refine zH ?_ | refine zI ?_ | refine zJ ?_ | refine zK ?_ | refine zL ?_ | refine zM ?_ | refine zN ?_ | refine zO ?_)
        refine pleave.r rfl ?_
        refine ⟨?_, g.trans g2⟩
        rw [tt_f (p := NamesQ l) (fun hN => by have := hN.2.1 k i x s hki hx hs; rw [hbb] at this; cases this)]
      | false =>
        refine zV (by decide +kernel) rfl rfl rfl (congrArg (fun b => some (Value.bool b)) hbb) ?_
        refine PG.nil ?_
        refine pd1.fin (by kernel_rfl) (by kernel_rfl) ?_
        repeat (first | refine zA ?_ | refine zB ?_ | refine zC ?_ | refine zD ?_ | refine zE ?_ | refine zF ?_ | refine zG rfl ?_ | refine zH ?_ | refine zI ?_ | refine zJ ?_ | refine zK ?_ | refine zL ?_ | refine zM ?_ | refine zN ?_ | refine zO ?_)
        refine pcond.f rfl ?_
        repeat (first | refine zA ?_ | refine zB ?_ | refine zC ?_ | refine zD ?_ | refine zE ?_ | refine zF ?_ | refine zG rfl ?_ | refine zH ?_ | refine zI ?_ | refine zJ ?_ | refine zK ?_ | refine zL ?_ | refine zM ?_ | refine zN ?_ | refine zO ?_)
        repeat (first | refine zT rfl rfl rfl rfl rfl rfl (cbin_inc (by omega)) ?_ | refine zP rfl rfl rfl rfl rfl ?_ | refine zQ rfl rfl rfl ?_ | refine zR rfl rfl rfl rfl rfl (by first | assumption | exact cload_of (by assumption) rfl) ?_ | refine zS rfl rfl rfl rfl rfl rfl rfl rfl (by first | exact SlA.len (by assumption) rfl | exact Sl.map (by assumption) rfl | exact Sl.len (by assumption) rfl) ?_)
        refine pops.nil ?_
        refine .n ⟨_, k + 1, rfl, ⟨rfl, rfl, rfl, rfl, trivial⟩, (by show i - (k + 1) < i - k; omega), by omega, rfl, all_next hall2 hx hbb⟩
    · repeat (first | refine zA ?_ | refine zB ?_ | refine zC ?_ | refine zD ?_ | refine zE ?_ | refine zF ?_ | refine zG rfl ?_ | refine zH ?_ | refine zI ?_ | refine zJ ?_ | refine zK ?_ | refine zL ?_ | refine zM ?_ | refine zN ?_ | refine zO ?_)
      repeat (first | refine zT rfl rfl rfl rfl rfl rfl (cbin_inc (by omega)) ?_ | refine zP rfl rfl rfl rfl rfl ?_ | refine zQ rfl rfl rfl ?_ | refine zR rfl rfl rfl rfl rfl (by first | assumption | exact cload_of (by assumption) rfl) ?_ | refine zS rfl rfl rfl rfl rfl rfl rfl rfl (by first | exact SlA.len (by assumption) rfl | exact Sl.map (by assumption) rfl | exact Sl.len (by assumption) rfl) ?_)
      refine pops.nil ?_
      refine .n ⟨_, i + 1, rfl, ⟨rfl, rfl, rfl, trivial⟩, (by show l.length - (i + 1) < l.length - i; omega), by omega, g.trans g2, all_next hall hs hn, fun j k' x y h1 h2 h3 h4 => ?_⟩
      rcases Nat.lt_or_ge k' i with h5 | h5
      · exact hdis j k' x y h1 h5 h3 h4
      · obtain rfl : k' = i := by omega
        rw [hs] at h4
        cases h4
        exact hall2 j x (by omega) h3
  · repeat (first | refine zA ?_ | refine zB ?_ | refine zC ?_ | refine zD ?_ | refine zE ?_ | refine zF ?_ | refine zG rfl ?_ | refine zH ?_ | refine zI ?_ | refine zJ ?_ | refine zK ?_ | refine zL ?_ | refine zM ?_ | refine zN ?_ | refine zO ?_)
    repeat (first | refine zT rfl rfl rfl rfl rfl rfl (cbin_inc (by omega)) ?_ | refine zP rfl rfl rfl rfl rfl ?_ | refine zQ rfl rfl rfl ?_ | refine zR rfl rfl rfl rfl rfl (by first | assumption | exact cload_of (by assumption) rfl) ?_ | refine zS rfl rfl rfl rfl rfl rfl rfl rfl (by first | exact SlA.len (by assumption) rfl | exact Sl.map (by assumption) rfl | exact Sl.len (by assumption) rfl) ?_)
    refine pops.nil ?_
    repeat (first | refine zA ?_ | refine zB ?_ | refine zC ?_ | refine zD ?_ | refine zE ?_ | refine zF ?_ | refine zG rfl ?_ | refine zH ?_ | refine zI ?_ | refine zJ ?_ | refine zK ?_ | refine zL ?_ | refine zM ?_ | refine zN ?_ | refine zO ?_)
    refine pleave.r rfl ?_
    refine ⟨?_, g⟩
    rw [tt_t (p := NamesQ l) ⟨all_end hall (by omega), fun j k x y h1 h2 h3 => hdis j k x y h1 (by have := (List.getElem?_eq_some_iff.1 h3).1; omega) h2 h3, by omega, by omega⟩]
end Go.Proofs.YtpcoponpfhnhlaaGreatDoor