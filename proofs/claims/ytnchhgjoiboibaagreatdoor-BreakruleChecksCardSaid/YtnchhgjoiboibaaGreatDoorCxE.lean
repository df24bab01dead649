/- The canonical executor: rules for writing, ranges over functions, states of automata. Conditions: none. -/
import Derived.Test.YtnchhgjoiboibaaGreatDoorCxD
import Derived.ProofKit
import Derived.OpenShut
/- The canonical executor: rules for append, make, and range over a function. -/
set_option linter.unusedSimpArgs false
set_option linter.unusedVariables false
namespace Go.Cx

/-! ### Own slices that grow -/
/-- A slice of single cells in a block of its own (b), or the nil slice. -/
def Own (h : CH) (v : Value) (b : Nat) (l : List Value) : Prop :=
  (l = [] ∧ v = .slice none 0 0) ∨ ∃ c, v = .slice (some ⟨b, 0, none⟩) l.length c ∧ h.get b = some (.cells l false false) ∧ (c = l.length ∨ c = unk + 1)
/-- Of what was there nothing but block b has changed. -/
structure Chg (b : Nat) (h h' : CH) : Prop where
  n : h.n ≤ h'.n
  get : ∀ c, c < h.n → c ≠ b → h'.get c = h.get c
theorem Gr.chg {h0 h h' : CH} {b : Nat} (g : Gr h0 h) (hb : h0.n ≤ b) (u : Chg b h h') : Gr h0 h' :=
  ⟨Nat.le_trans g.n u.n, fun c hc => (u.get c (Nat.lt_of_lt_of_le hc g.n) (by omega)).trans (g.get c hc)⟩
theorem Own.gr {h h' : CH} {v : Value} {b : Nat} {l : List Value} (ho : Own h v b l) (hw : h.wf) (g : Gr h h') : Own h' v b l := by
  rcases ho with ho | ⟨c, h1, h2, h3⟩
  · exact .inl ho
  · exact .inr ⟨c, h1, g.at hw h2, h3⟩
theorem Own.sl {T : Tab} {t : TypeId} {d : TypeDesc} {h : CH} {v : Value} {b : Nat} {l : List Value} (ho : Own h v b l) (hs : T.size t = some 1) (hu : T.und t = some d) (ha : isAggD d = false) (hl : l.length < 9223372036854775808) : Sl T t h v l := by
  rcases ho with ⟨rfl, rfl⟩ | ⟨c, rfl, h2, h3⟩
  · exact ⟨hl, none, 0, rfl, fun i x hx => by simp at hx⟩
  · exact Sl.one h2 hs hu ha hl rfl

theorem append_own {T : Tab} {t e : TypeId} {ty2 : TypeId} {i : TypeInfo} {z : List Value} {h : CH} {v x : Value} {b b1 : Nat} {l : List Value} {c1 : Nat} (hw : h.wf) (ho : Own h v b l) (hu : T.und t = some (.slice e)) (hi : T.info e = some i) (hsz : i.size = 1) (hby : 1 ≤ i.bytes) (hbb : i.bytes ≤ 64) (hz : zeroCellsOf T e = some z) (hzl : z.length = 1)
    (hu2 : isSliceD (T.und ty2) = true) (hx1 : isOne x = true) (hb1 : h.get b1 = some (.cells [x] false false)) (hll : l.length ≤ 1000000) :
    ∃ v' h' b', cappend T h [t, ty2] v (.slice (some ⟨b1, 0, none⟩) 1 c1) = .val v' h' ∧ h'.wf ∧ Chg b h h' ∧ h.n ≤ b' ∧ Own h' v' b' (l ++ [x]) := by
  have hsrc : csrc T h 1 e (some ty2) (.slice (some ⟨b1, 0, none⟩) 1 c1) = some (1, [x]) := by
    unfold csrc
    simp only [Option.bind_some, hu2, cond_true]
    rw [row_of hb1]
    rfl
  have hguard : (Nat.ble 1 1 && Nat.ble 1 i.bytes && Nat.beq z.length 1 && Nat.ble ((4 * (l.length + 1) + 4000) * i.bytes) 281474976710656 && [x].all isOne) = true := by
    have h1 : (4 * (l.length + 1) + 4000) * i.bytes ≤ 281474976710656 := by
      have : (4 * (l.length + 1) + 4000) * i.bytes ≤ 4004004 * 64 := Nat.mul_le_mul (by omega) hbb
      omega
    simp [hzl, hx1, Nat.ble_eq, hby, h1]
  rcases ho with ⟨rfl, rfl⟩ | ⟨c, rfl, h2, h3⟩
  · refine ⟨.slice (some ⟨h.n, 0, none⟩) (0 + 1) (unk + 1), h.push (.cells ([] ++ [x]) false false), h.n, ?_, CH.wf_push hw _, ⟨Nat.le_succ _, fun c hc _ => by rw [CH.get_push, if_neg (by omega)]⟩, Nat.le_refl _, .inr ⟨_, rfl, by rw [CH.get_push, if_pos rfl], .inr rfl⟩⟩
    unfold cappend
    simp only [COut.of, List.head?_cons, hu, hi, hz, hsz, List.tail_cons, hsrc, cappend2]
    have hguard := hguard
    simp only [List.length_nil] at hguard
    rw [hguard]
    rfl
  · rcases h3 with rfl | rfl
    · refine ⟨.slice (some ⟨h.n, 0, none⟩) (l.length + 1) (unk + 1), h.push (.cells (l ++ [x]) false false), h.n, ?_, CH.wf_push hw _, ⟨Nat.le_succ _, fun c hc _ => by rw [CH.get_push, if_neg (by omega)]⟩, Nat.le_refl _, .inr ⟨_, by simp, by rw [CH.get_push, if_pos rfl], .inr rfl⟩⟩
      unfold cappend
      simp only [COut.of, List.head?_cons, hu, hi, hz, hsz, List.tail_cons, hsrc, cappend2]
      rw [hguard, (nble_ff unk l.length).2 (by unfold unk; omega), (nble_ff _ _).2 (by omega)]
      simp only [cond_true, cond_false, appNew]
      rw [row_of h2]
      simp only [Option.bind_some, COut.of]
      rw [Nat.mul_one, lsub_of l 0 l.length (by omega)]
      simp
    · refine ⟨.slice (some ⟨h.n, 0, none⟩) (l.length + 1) (unk + 1), (h.put b .dead).push (.cells (l ++ [x]) false false), h.n, ?_, CH.wf_push (CH.wf_put hw h2) _, ⟨Nat.le_succ _, fun c hc hne => ?_⟩, Nat.le_refl _, .inr ⟨_, by simp, ?_, .inr rfl⟩⟩
      · unfold cappend
        simp only [COut.of, List.head?_cons, hu, hi, hz, hsz, List.tail_cons, hsrc, cappend2]
        rw [hguard, (nble unk (unk + 1)).2 (by omega), Nat.beq_refl]
        simp only [cond_true, appU, wrow, h2, COut.of]
        rw [Nat.mul_one, lsub_of l 0 l.length (by omega)]
        simp
      · rw [CH.get_push, if_neg (by rw [CH.n_put]; omega), CH.get_put, if_neg hne]
      · rw [CH.get_push, if_pos (by rw [CH.n_put])]

section
variable {X : Cxt} {rnd : Bool} {ops : List Oper} {o : Oper} {l : List Oper} {n : Nat} {tm : PT Value} {ds : List Deferred} {rc : Option FrameMode} {h : CH} {Q : KP} {d : Nat}
theorem cop_append {c : Call} {xo yo : Operand} {t t2 : TypeId} {v u : Value} (ho : o.op = .call c) (hc : c.callee = .builtin .append) (ha : c.args.toList = [xo, yo]) (ht : c.argTypes.toList = [t, t2]) (hx : ev tm xo = some v) (hy : ev tm yo = some u) : cop X.T tm h o = cappend X.T h [t, t2] v u := by
  unfold cop
  simp only [ho, ccallO, hc, ccallB, ha, COut.of, hx, hy, ht]
/-- One more element. -/
theorem pops.append1 {c : Call} {xo yo : Operand} {t t2 e : TypeId} {v x : Value} {b b1 c1 : Nat} {us : List Value} {i : TypeInfo} {z : List Value} (hw : cwant ops tm o = some true) (ho : o.op = .call c) (hc : c.callee = .builtin .append) (ha : c.args.toList = [xo, yo]) (ht : c.argTypes.toList = [t, t2]) (hx : ev tm xo = some v) (hy : ev tm yo = some (.slice (some ⟨b1, 0, none⟩) 1 c1))
    (hd : o.dst = some d) (hl : Nat.ble (d + 1) n = true) (hu : X.T.und t = some (.slice e)) (hi : X.T.info e = some i) (hsz : i.size = 1) (hby : Nat.ble 1 i.bytes = true) (hbb : Nat.ble i.bytes 64 = true) (hz : zeroCellsOf X.T e = some z) (hzl : z.length = 1) (hu2 : isSliceD (X.T.und t2) = true)
    (hwf : h.wf) (hown : Own h v b us) (hx1 : isOne x = true) (hb1 : h.get b1 = some (.cells [x] false false)) (hll : us.length ≤ 1000000)
    (hn : ∀ v' b' h', h'.wf → Chg b h h' → h.n ≤ b' → Own h' v' b' (us ++ [x]) → pops X rnd ops l ⟨n, tm.set v' d, ds, rc⟩ h' Q) : pops X rnd ops (o :: l) ⟨n, tm, ds, rc⟩ h Q := by
  obtain ⟨v', h', b', h1, h2, h3, h4, h5⟩ := append_own (T := X.T) hwf hown hu hi hsz ((nble _ _).1 hby) ((nble _ _).1 hbb) hz hzl hu2 hx1 hb1 hll (t := t) (ty2 := t2) (c1 := c1)
  exact pops.val hw ((cop_append ho hc ha ht hx hy).trans h1) hd hl (hn v' b' h' h2 h3 h4 h5)
/-- A new row of zeros. -/
theorem pops.makeSlice {t e : TypeId} {lo co : Operand} {k k' : IntKind} {m : Nat} {i : TypeInfo} {z : Value} (hw : cwant ops tm o = some true) (ho : o.op = .makeSlice t lo co) (hlo : ev tm lo = some (.int k (m : Int))) (hco : ev tm co = some (.int k' (m : Int))) (hd : o.dst = some d) (hl : Nat.ble (d + 1) n = true)
    (hu : X.T.und t = some (.slice e)) (hi : X.T.info e = some i) (hsz : i.size = 1) (hbb : Nat.ble i.bytes 64 = true) (hz : zeroCellsOf X.T e = some [z]) (hm : m ≤ 1000000) (hwf : h.wf)
    (hn : ∀ b h', h.n ≤ b → h'.wf → Gr h h' → h'.get b = some (.cells (List.replicate m z) false false) → pops X rnd ops l ⟨n, tm.set (.slice (some ⟨b, 0, none⟩) m m) d, ds, rc⟩ h' Q) : pops X rnd ops (o :: l) ⟨n, tm, ds, rc⟩ h Q := by
  have hrep : ∀ m, repeatL [z] m = List.replicate m z := by
    intro m
    induction m with
    | zero => rfl
    | succ m ih => show [z] ++ repeatL [z] m = _; rw [ih]; rfl
  refine pops.val hw (h' := h.push (.cells (List.replicate m z) false false)) ?_ hd hl (hn h.n _ (Nat.le_refl _) (CH.wf_push hwf _) (Gr.push _ _) (by rw [CH.get_push, if_pos rfl]))
  have hb := (nble _ _).1 hbb
  have hguard : (Nat.beq [z].length i.size && Nat.ble (i.bytes * m) 281474976710656 && Nat.ble m 1000000 && Nat.ble m m && Nat.ble 1 i.size) = true := by
    have h1 : i.bytes * m ≤ 281474976710656 := by
      have : i.bytes * m ≤ 64 * 1000000 := Nat.mul_le_mul hb hm
      omega
    simp [hsz, Nat.ble_eq, h1, hm]
  unfold cop
  simp only [ho, COut.of, hlo, hco, cmakeSlice, hu, natOf_cast, hi, hz, hguard, cond_true, hnew, hrep]
end

/-! ### Range over a function -/
/-- How a round ends. -/
def rndP (l : Nat) (Q : Value → CH → Prop) : KP := fun ex a h =>
  ex = .normal ∧ ∃ r, h.get l = some (.loop r) ∧ Q (.bool true) (h.put l (.loop { r with state := .ready, pending := none }))

theorem Rnd.intro {X : Cxt} {l f n : Nat} {tm : PT Value} {assign body : Code} {h : CH} {Q : Value → CH → Prop}
    (hc : Runs X f true assign { n, tm, defers := [], rc := none } h (fun ex a h => ex = .normal ∧ ∃ r, h.get l = some (.loop r) ∧ r.state = .ready ∧ Runs X f true body a (h.put l (.loop { r with state := .busy })) (rndP l Q))) : Rnd X l f n tm assign body h Q := by
  intro e w hR l' x tmps' hl ht c cs
  let b : Frame := { (default : Frame) with fn := f, kind := .normal, roundOf := some l' }
  have hb0 : Frame.round l' f tmps' assign body .normal = b.atR { tmps := tmps', defers := [] } [.code assign, .beginRound, .code body] := by
    simp [Frame.round, Frame.atR, b]
  rw [hb0]
  obtain ⟨ex, a, h1, e1, w1, ra, cs1, g1, g2, g3, g4, g5, g6, g7⟩ := hc e w { tmps := tmps', defers := [] } b [.beginRound, .code body] (c :: cs) (c :: cs) hR ⟨ht, .nil⟩ rfl ⟨rfl, (fun hh => by cases hh), fun hh => by cases hh⟩
  obtain ⟨rfl, r, hg, hrd, hbody⟩ := tt_iff.1 g1
  have hrc : a.rc = none := by
    cases har : a.rc with
    | none => rfl
    | some m => rw [har] at g6; cases g6
  rw [hrc] at g5
  have g5 : cs1 = c :: cs := g5
  subst g5
  obtain ⟨r', q, he, hw, hB, hLR⟩ := g3.obj _ _ hg
  have hl1 := g2 _ _ hl
  rw [hl1] at he
  cases he
  have hR2 : R X.B0 X.w0 e1 (h1.put l (.loop { r with state := .busy })) { w1 with heap := w1.heap.setIfInBounds l' (.loop { q with state := .busy }) } :=
    g3.update hg rfl hl1 (by simp) (fun i hi => by simp only [Array.getElem?_setIfInBounds]; rw [if_neg (by omega)]) rfl rfl rfl
      ⟨l', { q with state := .busy }, hl1, setObj_at hw, hB, ⟨rfl, hLR.pending, hLR.fn, hLR.params, hLR.assign, hLR.body, hLR.tmps⟩⟩
  have hbegin : (Instr.beginRound l').run X.P w1 = .ok () { w1 with heap := w1.heap.setIfInBounds l' (.loop { q with state := .busy }) } := by
    have j1 := getObj_run (P := X.P) hw (by simp)
    have j2 := setObj_run (P := X.P) (q' := .loop { q with state := .busy }) hw (by simp)
    have j3 : q.state = .ready := by rw [hLR.state]; exact hrd
    simp [Instr.beginRound, Instr.getLoop, j1, j2, j3]
  have s1 := stepR_beginRound (P := X.P) (b := b) (a := ra) (k := [.code body]) (cs := c :: cs) rfl hbegin
  obtain ⟨ex2, a2, h2, e2, w2, ra2, cs2, k1, k2, k3, k4, k5, k6, k7⟩ := hbody e1 _ ra b [] (c :: cs) (c :: cs) hR2 g4 (by rw [hrc]; rfl) ⟨rfl, (fun hh => by cases hh), fun hh => by rw [hrc] at hh; cases hh⟩
  have hrc2 : a2.rc = none := by
    rw [hrc] at k6
    cases har : a2.rc with
    | none => rfl
    | some m => rw [har] at k6; cases k6
  rw [hrc2] at k5
  have k5 : cs2 = c :: cs := k5
  subst k5
  have hl2 := k2 _ _ hl1
  have pre : Steps X.P (lone (b.atR { tmps := tmps', defers := [] } [.code assign, .beginRound, .code body]) (c :: cs) w) (lone (b.atR ra [.code body]) (c :: cs) { w1 with heap := w1.heap.setIfInBounds l' (.loop { q with state := .busy }) }) := Steps.trans g7 (.one s1)
  obtain ⟨rfl, r2, hg2, hQ⟩ := tt_iff.1 k1
  have k1 : cend l none h2 (fun r _ h => match r with
    | .ret v => tt (Q v h)
    | _ => false) = true := by
    unfold cend
    rw [hg2]
    exact tt_iff.2 hQ
  obtain ⟨h3, w3, j1, j2, j3⟩ := cend_sound (P := X.P) k1 k3 hl2
  exact ⟨_, h3, e2, w3, _, tt_iff.1 j1, g2.trans k2, j2, .flat rfl, pre.trans (Steps.trans k7 (.one (stepR_round_end rfl rfl j3)))⟩

section
variable {X : Cxt} {fid : FuncId} {a : CAct} {h : CH} {Q : KP}
/-- A range over a function whose rounds come to an ordinary end. -/
theorem Runs.rangeFunc {f : Operand} {ps : Array Tmp} {assign body : Code} {gf : FuncId} {gfn : Func} {first cap : Array Value} (hf : ev a.tm f = some (.func (.func gf) first cap)) (hfn : X.T.fn gf = some gfn)
    (hc : CalF X gf (first.toList ++ [.func (.yield (h.n + 1)) #[] #[]] ++ cap.toList) ((h.push (.deferred true)).push (.loop { state := .ready, pending := none, fn := fid, tmps := (tmList a.tm a.n []).toArray, params := ps, assign, body, defers := h.n }))
      fun r h' => (∃ v, r = .ret v) ∧ ∃ r', h'.get (h.n + 1) = some (.loop r') ∧ r'.state ≠ .busy ∧ r'.pending = none ∧ Q .normal { a with defers := { target := .collected h.n, args := #[] } :: a.defers } (h'.put (h.n + 1) (.loop { r' with state := .exhausted }))) :
    Runs X fid false (.rangeFunc f ps assign body) a h Q := by
  refine Runs.of _ ?_
  refine ⟨rfl, ?_⟩
  rw [hf]
  simp only
  unfold crf
  simp only [ccallee, hfn]
  refine tt_iff.2 ?_
  refine hc.mono fun r h' hh => ?_
  obtain ⟨⟨v, rfl⟩, r', h1, h2, h3, h4⟩ := hh
  simp only
  unfold crfEnd
  rw [h1]
  simp only [decide_eq_false h2, cond_false, h3]
  rw [h3] at h4
  exact tt_iff.2 h4
theorem pleave.rd {fn : Func} {n d : Nat} {tm : PT Value} {v : Value} {Q : CRes → CH → Prop} (hd : h.get d = some (.deferred true)) (hv : cresults X.T fn tm (h.put d (.deferred false)) = some v) (hq : Q (.ret v) (h.put d (.deferred false))) : pleave X fn Q .ret ⟨n, tm, [{ target := .collected d, args := #[] }], none⟩ h := by
  unfold pleave
  simp only [kleave, cleave, cleaveD, hd, cleave0, hv]
  exact tt_iff.2 hq
end
section
variable {X : Cxt} {rnd : Bool} {ops : List Oper} {o : Oper} {l : List Oper} {n : Nat} {tm : PT Value} {ds : List Deferred} {rc : Option FrameMode} {h : CH} {Q : KP} {d : Nat}
/-- A call of the function of a range. -/
theorem pops.yield {c : Call} {x : Operand} {yl : Nat} {args : List Value} {r : Loop} (hw : cwant ops tm o = some true) (ho : o.op = .call c) (hc : c.callee = .value x) (hx : ev tm x = some (.func (.yield yl) #[] #[])) (ha : evs tm c.args.toList = some args) (hd : o.dst = some d) (hl : Nat.ble (d + 1) n = true)
    (hg : h.get yl = some (.loop r)) (hlen : args.length = r.params.toList.length)
    (hn : Rnd X yl r.fn r.tmps.toList.length (setArgs r.tmps.toList.length (argsTree r.tmps.toList 0 .nil) (r.params.toList.zip args)) r.assign r.body h fun v h' => pops X rnd ops l ⟨n, tm.set v d, ds, rc⟩ h' Q) : pops X rnd ops (o :: l) ⟨n, tm, ds, rc⟩ h Q := by
  constructor
  show p1 _ _ _ _ _ _ _
  unfold p1
  have hv : cop X.T tm h o = .call (.round yl r.fn r.tmps.toList.length (setArgs r.tmps.toList.length (argsTree r.tmps.toList 0 .nil) (r.params.toList.zip args)) r.assign r.body) := by
    unfold cop
    simp only [ho, ccallO, hc, hx, ha, COut.of, ccallee, hg]
    rw [(nbeq _ _).2 hlen]
    rfl
  simp only [hw, hv, pout]
  intro e w h1 l' x' tmps' h2 h3 c' cs
  obtain ⟨v, h', e', w', v', k1, k2⟩ := hn e w h1 l' x' tmps' h2 h3 c' cs
  refine ⟨v, h', e', w', v', ?_, k2⟩
  show kthenP _ _ _ _ _
  rw [hd, put_mk hl]
  exact .n k1.out
end
end Go.Cx

/- The canonical executor: writing in regions that draw their order; states of automata. -/
set_option linter.unusedSimpArgs false
set_option linter.unusedVariables false
namespace Go.Cx
section
variable {X : Cxt} {ops : List Oper} {ms : List OpM} {all : Nat} {Q : KP} {h : CH} {o : Oper} {L n M d : Nat} {tm : PT Value} {ds : List Deferred} {rc : Option FrameMode} {hd : List Held}
theorem pd1.valR (i : Nat) {v : Value} {h' : CH} (hlo : lget ops i = some o) (hr : readyE ops ms 0 L = [(i, o)]) (hw : cwant ops tm o = some true) (hv : cop X.T tm h o = .val v h') (hd' : o.dst = some d) (hl : Nat.ble (d + 1) n = true)
    (hk : ∃ held, Reck X.T (maskOf ms i) h' hd held ∧ PG X ops ms all M Q ops ms 0 ⟨Nat.lor L (2 ^ i), ⟨n, tm.set v d, ds, rc⟩, held⟩ h') : pd1 X ops ms all (pdg X ops ms all Q (M + 1)) ⟨L, ⟨n, tm, ds, rc⟩, hd⟩ h Q := by
  obtain ⟨held, h1, h2⟩ := hk
  exact pd1.val hr hw hd' hl hv h1 h2
theorem pd1.buildSlice (i : Nat) {t : TypeId} {len : Nat} {parts : Array (Nat × Operand)} {cs : List Value} (hlo : lget ops i = some o) (hr : readyE ops ms 0 L = [(i, o)]) (hw : cwant ops tm o = some true) (ho : o.op = .buildSlice t len parts) (hv : cbuildSlice X.T tm h t len parts.toList = hnew h (.cells cs false false) fun b => .slice (some ⟨b, 0, none⟩) len len) (hd' : o.dst = some d) (hl : Nat.ble (d + 1) n = true) (hwf : h.wf)
    (hk : ∀ b h', h.n ≤ b → h'.wf → Gr h h' → h'.get b = some (.cells cs false false) → ∃ held, Reck X.T (maskOf ms i) h' hd held ∧ PG X ops ms all M Q ops ms 0 ⟨Nat.lor L (2 ^ i), ⟨n, tm.set (.slice (some ⟨b, 0, none⟩) len len) d, ds, rc⟩, held⟩ h') : pd1 X ops ms all (pdg X ops ms all Q (M + 1)) ⟨L, ⟨n, tm, ds, rc⟩, hd⟩ h Q :=
  pd1.valR i (h' := h.push (.cells cs false false)) hlo hr hw (by unfold cop; simp only [ho, hv, hnew]) hd' hl (hk h.n _ (Nat.le_refl _) (CH.wf_push hwf _) (Gr.push _ _) (by rw [CH.get_push, if_pos rfl]))
theorem pd1.append1 (i : Nat) {c : Call} {xo yo : Operand} {t t2 e : TypeId} {v x : Value} {b b1 c1 : Nat} {us : List Value} {inf : TypeInfo} {z : List Value} (hlo : lget ops i = some o) (hr : readyE ops ms 0 L = [(i, o)]) (hw : cwant ops tm o = some true) (ho : o.op = .call c) (hc : c.callee = .builtin .append) (ha : c.args.toList = [xo, yo]) (ht : c.argTypes.toList = [t, t2]) (hx : ev tm xo = some v) (hy : ev tm yo = some (.slice (some ⟨b1, 0, none⟩) 1 c1))
    (hd' : o.dst = some d) (hl : Nat.ble (d + 1) n = true) (hu : X.T.und t = some (.slice e)) (hi : X.T.info e = some inf) (hsz : inf.size = 1) (hby : Nat.ble 1 inf.bytes = true) (hbb : Nat.ble inf.bytes 64 = true) (hz : zeroCellsOf X.T e = some z) (hzl : z.length = 1) (hu2 : isSliceD (X.T.und t2) = true)
    (hwf : h.wf) (hown : Own h v b us) (hx1 : isOne x = true) (hb1 : h.get b1 = some (.cells [x] false false)) (hll : us.length ≤ 1000000)
    (hk : ∀ v' b' h', h'.wf → Chg b h h' → h.n ≤ b' → Own h' v' b' (us ++ [x]) → ∃ held, Reck X.T (maskOf ms i) h' hd held ∧ PG X ops ms all M Q ops ms 0 ⟨Nat.lor L (2 ^ i), ⟨n, tm.set v' d, ds, rc⟩, held⟩ h') : pd1 X ops ms all (pdg X ops ms all Q (M + 1)) ⟨L, ⟨n, tm, ds, rc⟩, hd⟩ h Q := by
  obtain ⟨v', h', b', h1, h2, h3, h4, h5⟩ := append_own (T := X.T) hwf hown hu hi hsz ((nble _ _).1 hby) ((nble _ _).1 hbb) hz hzl hu2 hx1 hb1 hll (t := t) (ty2 := t2) (c1 := c1)
  exact pd1.valR i hlo hr hw ((cop_append ho hc ha ht hx hy).trans h1) hd' hl (hk v' b' h' h2 h3 h4 h5)
theorem pd1.val0 {M : Nat} {v : Value} {h' : CH} {i : Nat} (hr : readyE ops ms 0 L = [(i, o)]) (hw : cwant ops tm o = some true) (hd' : o.dst = none) (hv : cop X.T tm h o = .val v h') {held : List Held} (hk : Reck X.T (maskOf ms i) h' hd held)
    (hq : PG X ops ms all M Q ops ms 0 ⟨Nat.lor L (2 ^ i), ⟨n, tm, ds, rc⟩, held⟩ h') : pd1 X ops ms all (pdg X ops ms all Q (M + 1)) ⟨L, ⟨n, tm, ds, rc⟩, hd⟩ h Q := by
  refine pd1.one hr ?_
  unfold p1e
  simp only [hw, hv]
  refine ⟨held, hk, ?_⟩
  rw [hd']
  exact hq
theorem pd1.store (i : Nat) {t : TypeId} {x y : Operand} {u : Value} {b off s : Nat} {cs cs' us : List Value} (hlo : lget ops i = some o) (hr : readyE ops ms 0 L = [(i, o)]) (hw : cwant ops tm o = some true) (ho : o.op = .store t x y) (hx : ev tm x = some (.pointer (some ⟨b, off, none⟩))) (hy : ev tm y = some u) (hd' : o.dst = none)
    (hg : h.get b = some (.cells cs false false)) (hs : X.T.size t = some s) (hus : u.cells.toList = us) (hlen : (Nat.beq us.length s && us.all isOne) = true) (hsp : lsplice us cs off = some cs') (hwf : h.wf)
    (hk : ∀ h', h'.wf → Upd b h h' → h'.get b = some (.cells cs' false false) → ∃ held, Reck X.T (maskOf ms i) h' hd held ∧ PG X ops ms all M Q ops ms 0 ⟨Nat.lor L (2 ^ i), ⟨n, tm, ds, rc⟩, held⟩ h') : pd1 X ops ms all (pdg X ops ms all Q (M + 1)) ⟨L, ⟨n, tm, ds, rc⟩, hd⟩ h Q := by
  subst hus
  obtain ⟨held, h1, h2⟩ := hk _ (CH.wf_put hwf hg) (Upd.put b (.cells cs' false false)) (by rw [CH.get_put, if_pos rfl])
  refine pd1.val0 hr hw hd' (v := undefV) ?_ h1 h2
  unfold cop
  simp only [ho, COut.of, hx, hy, cstore, ptrOf, hs, wrow, hg, hlen, cond_true, hsp]
theorem pd1.callR (i : Nat) {c : Call} {f : FuncId} {fn : Func} {first cap : Array Value} {args ar : List Value} {x : Operand} (hlo : lget ops i = some o) (hr : readyE ops ms 0 L = [(i, o)]) (hw : cwant ops tm o = some true) (ho : o.op = .call c) (hc : c.callee = .value x) (hx : ev tm x = some (.func (.func f) first cap)) (ha : evs tm c.args.toList = some args) (hf : X.T.fn f = some fn)
    (hd' : o.dst = some d) (hl : Nat.ble (d + 1) n = true) (hall : first.toList ++ args ++ cap.toList = ar)
    (hn : CalF X f ar h fun r h' => ∃ v, r = .ret v ∧ ∃ held, Reck X.T (maskOf ms i) h' hd held ∧ PG X ops ms all M Q ops ms 0 ⟨Nat.lor L (2 ^ i), ⟨n, tm.set v d, ds, rc⟩, held⟩ h') : pd1 X ops ms all (pdg X ops ms all Q (M + 1)) ⟨L, ⟨n, tm, ds, rc⟩, hd⟩ h Q := by
  subst hall
  exact pd1.call hr hw hd' hl (by unfold cop; simp only [ho, ccallO, hc, hx, ha, COut.of, ccallee, hf]) hn
end

/-- An element's address, and what is read there, now and when the heap has grown. -/
theorem Sl.readG {T : Tab} {t ts : TypeId} {h : CH} {v : Value} {vs : List Value} (hs : Sl T t h v vs) (hwf : h.wf) (hu : T.und ts = some (.slice t)) {i : Nat} {x : Value} (hx : vs[i]? = some x) (k : IntKind) :
    ∃ p, cindexAddr T ts v (.int k (i : Int)) = some p ∧ ∀ h', Gr h h' → cload T h' t p = some x := by
  obtain ⟨b, o, h1, h2⟩ := hs.at hu hx k
  obtain ⟨hl, a, c, rfl, h3⟩ := hs
  obtain ⟨b', o', cs, ro, fz, s, k1, k2, k3, k4⟩ := h3 i x hx
  refine ⟨_, h1, fun h' g => h2 h' ?_⟩
  have hlt : i < vs.length := (List.getElem?_eq_some_iff.1 hx).1
  have : b = b' := by
    subst k1
    unfold cindexAddr at h1
    rw [hu] at h1
    simp only [Option.bind_some, rowOf, natOf_cast, k2] at h1
    rw [(nble _ _).2 hlt] at h1
    simp at h1
    exact h1.1.symm
  subst this
  exact ⟨cs, ro, fz, k3, g.get b (CH.lt hwf k3)⟩
theorem SlA.readG {α : Type} {S : Value → α → Prop} {T : Tab} {t ts : TypeId} {h : CH} {v : Value} {l : List α} (hs : SlA T t S h v l) (hwf : h.wf) (hu : T.und ts = some (.slice t)) {i : Nat} {x : α} (hx : l[i]? = some x) (k : IntKind) :
    ∃ p u, cindexAddr T ts v (.int k (i : Int)) = some p ∧ S u x ∧ ∀ h', Gr h h' → cload T h' t p = some u := by
  obtain ⟨vs, h1, h2, h3⟩ := hs
  obtain ⟨u, h4, h5⟩ := h3 i x hx
  obtain ⟨p, h6, h7⟩ := h1.readG hwf hu h4 k
  exact ⟨p, u, h6, h5, h7⟩
theorem Sl.readM {α : Type} {f : α → Value} {T : Tab} {t ts : TypeId} {h : CH} {v : Value} {l : List α} (hs : Sl T t h v (l.map f)) (hwf : h.wf) (hu : T.und ts = some (.slice t)) {i : Nat} {x : α} (hx : l[i]? = some x) (k : IntKind) :
    ∃ p, cindexAddr T ts v (.int k (i : Int)) = some p ∧ ∀ h', Gr h h' → cload T h' t p = some (f x) := hs.readG hwf hu (by rw [List.getElem?_map, hx]; rfl) k

/-! ### States -/
def stepTo (nx : List (List Int)) (s c : Nat) : Nat := (((nx[s]?).bind fun r => r[c]?).getD 0).toNat
def st (nx : List (List Int)) (l : List Int) : Nat → Nat
  | 0 => 0
  | i + 1 => stepTo nx (st nx l i) (l.getD i 0).toNat
def rst (nx : List (List Int)) (l : List Int) : Nat → Nat
  | 0 => 0
  | k + 1 => stepTo nx (rst nx l k) (l.getD (l.length - 1 - k) 0).toNat
def leftS (t : TabD) (l : List Int) : List Int := (List.range (l.length + 1)).map fun i => (st t.left.next l i : Int)
def rightS (t : TabD) (l : List Int) : List Int := (List.range (l.length + 1)).map fun i => (rst t.right.next l (l.length - i) : Int)
/-- A valid table, and numbers that are classes. -/
def UsableP (t : TabD) (l : List Int) : Prop := ValidP t ∧ ∀ c, c ∈ l → 0 ≤ c ∧ c < (t.classes.length : Int)
/-- A step leads to a state. -/
theorem stepTo_ok {a : AutD} {classes rules : Nat} (hS : ShapeP a classes rules) {s c : Nat} (hs : s < a.next.length) (hc : c < classes) : stepTo a.next s c < a.next.length ∧ ∃ r, a.next[s]? = some r ∧ r[c]? = some (stepTo a.next s c : Int) := by
  obtain ⟨r, hr⟩ : ∃ r, a.next[s]? = some r := ⟨_, List.getElem?_eq_getElem hs⟩
  obtain ⟨h1, h2⟩ := (hS.2.2.2 s hs).1 r hr
  obtain ⟨x, hx⟩ : ∃ x, r[c]? = some x := ⟨_, List.getElem?_eq_getElem (by omega)⟩
  have := h2 x (List.mem_of_getElem? hx)
  have e : stepTo a.next s c = x.toNat := by unfold stepTo; rw [hr]; simp only [Option.bind_some, hx, Option.getD_some]
  refine ⟨by omega, r, hr, ?_⟩
  rw [hx, e]
  congr 1
  omega
theorem st_ok {a : AutD} {classes rules : Nat} (hS : ShapeP a classes rules) {l : List Int} (hl : ∀ c, c ∈ l → 0 ≤ c ∧ c < (classes : Int)) : ∀ i, i ≤ l.length → st a.next l i < a.next.length
  | 0, _ => hS.1
  | i + 1, hi => by
    have h1 := hl (l.getD i 0) (by rw [List.getD_eq_getElem?_getD, List.getElem?_eq_getElem hi]; exact List.getElem_mem hi)
    exact (stepTo_ok hS (st_ok hS hl i (by omega)) (by omega)).1
theorem rst_ok {a : AutD} {classes rules : Nat} (hS : ShapeP a classes rules) {l : List Int} (hl : ∀ c, c ∈ l → 0 ≤ c ∧ c < (classes : Int)) : ∀ k, k ≤ l.length → rst a.next l k < a.next.length
  | 0, _ => hS.1
  | k + 1, hi => by
    have h1 := hl (l.getD (l.length - 1 - k) 0) (by rw [List.getD_eq_getElem?_getD, List.getElem?_eq_getElem (by omega)]; exact List.getElem_mem (by omega))
    exact (stepTo_ok hS (rst_ok hS hl k (by omega)) (by omega)).1
end Go.Cx

/- The canonical executor: small helps for rows that are written, and for rounds of a range. -/
set_option linter.unusedSimpArgs false
set_option linter.unusedVariables false
namespace Go.Cx
theorem Rnd.monoW {X : Cxt} {l f n : Nat} {tm : PT Value} {as_ bd : Code} {h : CH} {Q Q' : Value → CH → Prop} (hf : Rnd X l f n tm as_ bd h Q) (hq : ∀ v h, h.wf → Q v h → Q' v h) : Rnd X l f n tm as_ bd h Q' := by
  intro e w hR l' x tmps' hl ht c cs
  obtain ⟨v, h', e', w', v', k1, k2, k3, k4⟩ := hf e w hR l' x tmps' hl ht c cs
  exact ⟨v, h', e', w', v', hq _ _ k3.hdom k1, k2, k3, k4⟩
theorem lsplice_one {α : Type} (x : α) : ∀ (l : List α) (i : Nat), i < l.length → lsplice [x] l i = some (l.set i x)
  | [], i, h => by simp at h
  | y :: l, 0, h => rfl
  | y :: l, i + 1, h => by
    show (lsplice [x] l i).map (y :: ·) = _
    rw [lsplice_one x l i (by simpa using h)]
    rfl
/-- The address of an element of a row of single cells. -/
theorem indexAddr_one {T : Tab} {t el : TypeId} {b o len c : Nat} {k : IntKind} {i : Nat} (hu : T.und t = some (.slice el)) (hs : T.size el = some 1) (hi : i < len) : cindexAddr T t (.slice (some ⟨b, o, none⟩) len c) (.int k (i : Int)) = some (.pointer (some ⟨b, o + i, none⟩)) := by
  unfold cindexAddr
  rw [hu]
  simp only [Option.bind_some, rowOf, natOf_cast, hs]
  rw [(nble _ _).2 hi]
  simp
theorem CH.put_get {h : CH} {b c : Nat} {o : CObj} (hne : c ≠ b) : (h.put b o).get c = h.get c := by rw [CH.get_put, if_neg hne]
theorem CH.put_self {h : CH} {b : Nat} {o : CObj} : (h.put b o).get b = some o := by rw [CH.get_put, if_pos rfl]
/-- A part of a slice. -/
theorem Sl.part {T : Tab} {t : TypeId} {h : CH} {a : Option Addr} {n c c' s : Nat} {vs : List Value} (hs : Sl T t h (.slice a n c) vs) (hsz : T.size t = some s) {lo hi : Nat} (hlo : lo ≤ hi) (hhi : hi ≤ vs.length) {a' : Option Addr} (ha : ∀ b o, a = some ⟨b, o, none⟩ → lo < hi → a' = some ⟨b, o + lo * s, none⟩) :
    Sl T t h (.slice a' (hi - lo) c') ((vs.take hi).drop lo) := by
  obtain ⟨hl, a0, c0, h1, h2⟩ := hs
  cases h1
  refine ⟨by simp; omega, a', c', by simp [Nat.min_eq_left hhi], fun i x hx => ?_⟩
  rw [List.getElem?_drop, List.getElem?_take] at hx
  split at hx
  · rename_i hlt
    obtain ⟨b, o, cs, ro, fz, s', k1, k2, k3, k4⟩ := h2 _ x hx
    rw [hsz] at k2
    cases k2
    refine ⟨b, o + lo * s, cs, ro, fz, s, ha b o k1 (by omega), hsz, k3, ?_⟩
    rw [Nat.add_assoc, ← Nat.add_mul]
    exact k4
  · cases hx
theorem Reck.dropI {T : Tab} {B : Nat} {h : CH} {i : Nat} {o : Oper} {tm : PT Value} {v : Value} {r r' : List Held} (hb : tb B i = true) (hr : Reck T B h r r') : Reck T B h (⟨i, o, tm, v⟩ :: r) r' := .drop hb hr
end Go.Cx

/- The canonical executor: the rounds of a range that fill a row. -/
set_option linter.unusedSimpArgs false
set_option linter.unusedVariables false
namespace Go.Cx
theorem Runs.rangeFuncG {X : Cxt} {fid : FuncId} {a : CAct} {h : CH} {Q : KP} {f : Operand} {ps : Array Tmp} {assign body : Code} {gf : FuncId} {gfn : Func} {first cap : Array Value} {al : List Value} (hf : ev a.tm f = some (.func (.func gf) first cap)) (hfn : X.T.fn gf = some gfn) (hal : first.toList ++ [.func (.yield (h.n + 1)) #[] #[]] ++ cap.toList = al)
    (hc : ∀ (r0 : Loop) (hx : CH), r0 = { state := .ready, pending := none, fn := fid, tmps := (tmList a.tm a.n []).toArray, params := ps, assign, body, defers := h.n } → hx = (h.push (.deferred true)).push (.loop r0) → CalF X gf al hx
      fun r h' => (∃ v, r = .ret v) ∧ h'.get (h.n + 1) = some (.loop r0) ∧ Q .normal { a with defers := { target := .collected h.n, args := #[] } :: a.defers } (h'.put (h.n + 1) (.loop { r0 with state := .exhausted }))) :
    Runs X fid false (.rangeFunc f ps assign body) a h Q := by
  subst hal
  refine Runs.rangeFunc hf hfn ((hc _ _ rfl rfl).mono fun r h' hh => ?_)
  exact ⟨hh.1, _, hh.2.1, by simp, rfl, hh.2.2⟩
/-- What holds between the rounds. -/
structure RJ (h1 : CH) (bs bo bb d lid : Nat) (r0 : Loop) (vl : Value) (len : Nat) (row : List Value) (h' : CH) : Prop where
  g : Gr h1 h'
  hbs : h'.get bs = some (.cells row false false)
  hbo : h'.get bo = some (.cells [.slice (some ⟨bs, 0, none⟩) len len] false false)
  hbb : h'.get bb = some (.cells [vl] false false)
  hd : h'.get d = some (.deferred true)
  hlid : h'.get lid = some (.loop r0)
theorem RJ.step {h1 : CH} {bs bo bb d lid : Nat} {r0 r1 : Loop} {vl : Value} {len : Nat} {row row' : List Value} {h' h3 : CH} (hj : RJ h1 bs bo bb d lid r0 vl len row h') (o1 : h1.n ≤ bs) (o2 : bs < bo) (o3 : bo < bb) (o4 : bb < d) (o5 : d < lid)
    (u : Upd bs (h'.put lid (.loop r1)) h3) (hb : h3.get bs = some (.cells row' false false)) : RJ h1 bs bo bb d lid r0 vl len row' (h3.put lid (.loop r0)) := by
  have key : ∀ c, c ≠ lid → c ≠ bs → (h3.put lid (.loop r0)).get c = h'.get c := fun c h1 h2 => by rw [CH.put_get h1, u.get c h2, CH.put_get h1]
  refine ⟨((hj.g.put (by omega) _).upd o1 u).put (by omega) _, ?_, ?_, ?_, ?_, CH.put_self⟩
  · rw [CH.put_get (by omega)]; exact hb
  · rw [key _ (by omega) (by omega)]; exact hj.hbo
  · rw [key _ (by omega) (by omega)]; exact hj.hbb
  · rw [key _ (by omega) (by omega)]; exact hj.hd
/-- A row that is filled from behind: f k is what comes k places before the end. -/
def rowM (f : Nat → Nat) (n m : Nat) : List Value := (List.range (n + 1)).map fun i => Value.int .i64 (if i < m then 0 else (f (n - i) : Int))
theorem rowM_length (f : Nat → Nat) (n m : Nat) : (rowM f n m).length = n + 1 := by simp [rowM]
theorem rowM_init (f : Nat → Nat) (n : Nat) (h0 : f 0 = 0) : rowM f n n = List.replicate (n + 1) (.int .i64 0) := by
  apply List.ext_getElem?
  intro i
  rw [rowM, List.getElem?_map, List.getElem?_replicate]
  by_cases hi : i < n + 1
  · rw [List.getElem?_range hi, if_pos hi]
    simp only [Option.map_some]
    by_cases h1 : i < n
    · rw [if_pos h1]
    · rw [if_neg h1, show n - i = 0 by omega, h0]; rfl
  · rw [if_neg hi, List.getElem?_eq_none (by simp; omega)]; rfl
theorem rowM_get (f : Nat → Nat) (n m i : Nat) (hi : i ≤ n) (hm : m ≤ i) : (rowM f n m)[i]? = some (.int .i64 (f (n - i) : Int)) := by
  rw [rowM, List.getElem?_map, List.getElem?_range (by omega)]
  simp only [Option.map_some]
  rw [if_neg (by omega)]
theorem rowM_step (f : Nat → Nat) (n j : Nat) (hj : j < n) : (rowM f n (j + 1)).set j (.int .i64 (f (n - j) : Int)) = rowM f n j := by
  apply List.ext_getElem?
  intro i
  rw [List.getElem?_set]
  simp only [rowM_length]
  by_cases h1 : j = i
  · subst h1
    rw [if_pos rfl, if_pos (by omega), rowM_get f n j j (by omega) (Nat.le_refl _)]
  · rw [if_neg h1, rowM, rowM, List.getElem?_map, List.getElem?_map]
    by_cases h2 : i < n + 1
    · rw [List.getElem?_range h2]
      simp only [Option.map_some]
      by_cases h3 : i < j
      · rw [if_pos (by omega), if_pos h3]
      · rw [if_neg (by omega), if_neg h3]
    · rw [List.getElem?_eq_none (by simp; omega)]; rfl
theorem rightS_row (t : TabD) (l : List Int) : rowM (rst t.right.next l) l.length 0 = (rightS t l).map (Value.int .i64) := by
  unfold rowM rightS
  rw [List.map_map]
  apply List.map_congr_left
  intro i _
  simp
end Go.Cx

/- What the functions on states and rules tell. -/
set_option linter.unusedSimpArgs false
set_option linter.unusedVariables false
namespace Go.Cx
theorem find_first {α : Type} {p : α → Bool} : ∀ {l : List α} {i : Nat} {x : α}, (∀ (j : Nat) y, j < i → l[j]? = some y → p y = false) → l[i]? = some x → p x = true → l.find? p = some x
  | [], i, x, _, hx, _ => by simp at hx
  | y :: l, 0, x, _, hx, hp => by
    cases hx
    simp [hp]
  | y :: l, i + 1, x, h, hx, hp => by
    have h0 := h 0 y (Nat.succ_pos i) rfl
    rw [List.find?_cons, h0]
    exact find_first (i := i) (fun j z hj hz => h (j + 1) z (by omega) (by simpa using hz)) (by simpa using hx) hp
theorem find_no {α : Type} {p : α → Bool} {l : List α} (h : ∀ y, y ∈ l → p y = false) : l.find? p = none := by
  rw [List.find?_eq_none]
  intro y hy
  rw [h y hy]
  decide
def rowL (m : List (List Int)) (s : Nat) : List Int := (m[s]?).getD []
def actOf (t : TabD) (x : Int) : Int := (t.actions[x.toNat]?).getD 0
/-- The action and the rule of two states. -/
def decS (t : TabD) (s u : Nat) : Int × Int :=
  match (rowL t.left.marks s).find? fun x => decide (x ∈ rowL t.right.marks u) with
  | some x => (actOf t x, x)
  | none => (2, -1)
noncomputable def LeftR (t : TabD) (l : List Int) : List Int := cond (tt (UsableP t l)) (leftS t l) []
noncomputable def RightR (t : TabD) (l : List Int) : List Int := cond (tt (UsableP t l)) (rightS t l) []
/-- The action and the rule at a position. -/
noncomputable def DecideR (t : TabD) (l : List Int) (at_ : Int) : Int × Int :=
  cond (tt (0 ≤ at_ ∧ at_ ≤ (l.length : Int) ∧ UsableP t l)) (decS t (st t.left.next l at_.toNat) (rst t.right.next l (l.length - at_.toNat))) (2, -1)
noncomputable def ActionsR (t : TabD) (l : List Int) : List Int :=
  cond (tt (UsableP t l)) ((List.range (l.length + 1)).map fun i => (decS t (st t.left.next l i) (rst t.right.next l (l.length - i))).1) []
theorem leftS_length (t : TabD) (l : List Int) : (leftS t l).length = l.length + 1 := by simp [leftS]
theorem rightS_length (t : TabD) (l : List Int) : (rightS t l).length = l.length + 1 := by simp [rightS]
theorem leftS_get {t : TabD} {l : List Int} {i : Nat} (hi : i ≤ l.length) : (leftS t l)[i]? = some (st t.left.next l i : Int) := by
  unfold leftS
  rw [List.getElem?_map, List.getElem?_range (by omega)]
  rfl
theorem rightS_get {t : TabD} {l : List Int} {i : Nat} (hi : i ≤ l.length) : (rightS t l)[i]? = some (rst t.right.next l (l.length - i) : Int) := by
  unfold rightS
  rw [List.getElem?_map, List.getElem?_range (by omega)]
  rfl
/-- What a mark's place holds: a rule's number. -/
theorem mark_ok {a : AutD} {classes rules : Nat} (hS : ShapeP a classes rules) {s : Nat} (hs : s < a.next.length) : ∃ m, a.marks[s]? = some m ∧ rowL a.marks s = m ∧ ∀ x, x ∈ m → 0 ≤ x ∧ x < (rules : Int) := by
  obtain ⟨m, hm⟩ : ∃ m, a.marks[s]? = some m := ⟨_, List.getElem?_eq_getElem (by have := hS.2.2.1; omega)⟩
  refine ⟨m, hm, by unfold rowL; rw [hm]; rfl, fun x hx => ?_⟩
  obtain ⟨k, hk⟩ := List.mem_iff_getElem?.1 hx
  have := (hS.2.2.2 s hs).2 m hm k x hk
  exact ⟨this.1, this.2.1⟩
theorem act_ok {t : TabD} {x : Int} (h0 : 0 ≤ x) (h1 : x < (t.actions.length : Int)) : t.actions[x.toNat]? = some (actOf t x) := by
  unfold actOf
  rw [List.getElem?_eq_getElem (by omega)]
  rfl
theorem eq_of_get {a b : List Int} (hl : a.length = b.length) (h : ∀ (j : Nat), j < a.length → a[j]? = b[j]?) : a = b := by
  apply List.ext_getElem? 
  intro i
  rcases Nat.lt_or_ge i a.length with h1 | h1
  · exact h i h1
  · rw [List.getElem?_eq_none h1, List.getElem?_eq_none (by omega)]
end Go.Cx

/- Arguments that are slices or numbers. -/
set_option linter.unusedSimpArgs false
set_option linter.unusedVariables false
namespace Go.Cx
/-- What two states decide. -/
theorem decS_ok {t : TabD} {s u : Nat} (hP : ValidP t) (hs : s < t.left.next.length) (hu : u < t.right.next.length) :
    (0 ≤ (decS t s u).2 ∧ (decS t s u).2 < (t.actions.length : Int) ∧ t.actions[(decS t s u).2.toNat]? = some (decS t s u).1) ∨ ((decS t s u).1 = 2 ∧ (decS t s u).2 = -1) := by
  obtain ⟨m, hm1, hm2, hm3⟩ := mark_ok hP.2.2.2.1 hs
  unfold decS
  rw [hm2]
  split
  · rename_i x hx
    have hmem := List.mem_of_find?_eq_some hx
    obtain ⟨h1, h2⟩ := hm3 x hmem
    exact .inl ⟨h1, h2, act_ok h1 h2⟩
  · exact .inr ⟨rfl, rfl⟩
/-- A region of N operations that draws their order. -/
theorem PG.startA {X : Cxt} {Q : KP} {h : CH} {fid : FuncId} {rnd : Bool} {id : Nat} {ops : Array Oper} {a : CAct} (N all : Nat) (ms : List OpM) (hN : ops.size = N) (ha : 2 ^ N - 1 = all) (hm : opMs ops.toList ops.toList [] = ms) (hp : pairsOk ms ms 0 = true)
    (hn : PG X ops.toList ms all N Q ops.toList ms 0 { listed := 0, a, held := [] } h) : Runs X fid rnd (.region id ops true) a h Q := by
  subst hN ha
  exact PG.start ms hm hp hn
theorem pd1.finA {X : Cxt} {ops : List Oper} {ms : List OpM} {all L : Nat} {Q : KP} {h : CH} {a : CAct} {hd : List Held} {next : Stage → CH → Prop} (hr : readyE ops ms 0 L = []) (ha : Nat.beq L all = true) (hq : Q .normal a h) : pd1 X ops ms all next ⟨L, a, hd⟩ h Q := pd1.fin hr ha hq
section
variable {H : Type} {P : Program} {T : Tab}
theorem notAgg_slice {w : World} {r : Reach} {base : Nat} {t e : TypeId} {v : Value} (hu : P.underlying t = some (.slice e)) (hv : Value.okWide P w r base t v) : ∀ a, v ≠ .agg a := by
  rintro a rfl
  simp [Value.okWide, hu, Cell.okWide, Cell.ok] at hv
theorem notAgg_int {w : World} {r : Reach} {base : Nat} {t : TypeId} {k : IntKind} {v : Value} (hu : P.underlying t = some (.int k)) (hv : Value.okWide P w r base t v) : ∀ a, v ≠ .agg a := by
  rintro a rfl
  simp [Value.okWide, hu, Cell.okWide, Cell.ok] at hv
theorem ints_arg {h : CH} {t el : TypeId} {cv : Value} {d : DataW H} (hu : T.und t = some (.slice el)) (hs : T.size el = some 1) (hue : T.und el = some (.int .i64)) (hn : ∀ a, cv ≠ .agg a) (hh : Has T h t cv.cells.toList d) : ∃ l, SlI T el h cv l := by
  rw [cells_one hn] at hh
  obtain ⟨v, l, h1, _, h2⟩ := ints_of hu hs hue hh
  have : cv = v := by simpa using h1
  exact ⟨l, this ▸ h2⟩
theorem int_arg {h : CH} {t : TypeId} {cv : Value} {d : DataW H} (hu : T.und t = some (.int .i64)) (hn : ∀ a, cv ≠ .agg a) (hh : Has T h t cv.cells.toList d) : ∃ n : Int, cv = .int .i64 n := by
  rw [cells_one hn] at hh
  obtain ⟨n, h1⟩ := int_of hu hh
  exact ⟨n, by simpa using h1⟩
end
end Go.Cx

/- The canonical executor: parts of slices; prefixes of lists and their states. -/
set_option linter.unusedSimpArgs false
set_option linter.unusedVariables false
namespace Go.Cx
/-- A slice of elements of s cells of which the capacity is told. -/
def CapOk (v : Value) (s : Nat) : Prop := v = .slice none 0 0 ∨ ∃ b o n c, v = .slice (some ⟨b, o, none⟩) n c ∧ ((n ≤ c ∧ c < unk) ∨ c = unk + s)
theorem Own.cap {h : CH} {v : Value} {b : Nat} {l : List Value} (ho : Own h v b l) (hl : l.length ≤ 1000000) : CapOk v 1 := by
  rcases ho with ⟨_, rfl⟩ | ⟨c, rfl, _, rfl | rfl⟩
  · exact .inl rfl
  · exact .inr ⟨b, 0, _, _, rfl, .inl ⟨Nat.le_refl _, by unfold unk; omega⟩⟩
  · exact .inr ⟨b, 0, _, _, rfl, .inr rfl⟩
theorem okB {n l h : Nat} (h1 : l ≤ h) (h2 : h ≤ n) : okBounds n l h = true := by
  unfold okBounds
  simp [Nat.ble_eq, h1, h2]
theorem cslice_to {T : Tab} {tm : PT Value} {t e : TypeId} {v : Value} {vs : List Value} {h : CH} {lo hi : Option Operand} {l u : Nat} (hs : Sl T e h v vs) (hu : T.und t = some (.slice e)) (hsz : T.size e = some 1) (hc : CapOk v 1) (hlo : cbound tm 0 lo = some l) (hhi : cbound tm vs.length hi = some u) (h1 : l ≤ u) (h2 : u ≤ vs.length) :
    ∃ v', cslice T tm t v lo hi none = some v' ∧ Sl T e h v' ((vs.take u).drop l) := by
  have hs0 := hs
  obtain ⟨hl, a, c, rfl, _⟩ := hs
  unfold cslice
  simp only [hu, hsz, Option.bind_some]
  rcases hc with hc | ⟨b, o, n, c', hv, hcap⟩
  · simp only [Value.slice.injEq] at hc
    obtain ⟨rfl, hn, rfl⟩ := hc
    have hlu : l = 0 ∧ u = 0 := by omega
    obtain ⟨rfl, rfl⟩ := hlu
    refine ⟨.slice none 0 0, ?_, ?_⟩
    · rw [(nble 1 1).2 (Nat.le_refl 1)]
      simp only [cond_true, csliceV]
      rw [(nble_ff unk 0).2 (by unfold unk; omega)]
      simp only [cond_false, csliceK, hlo, hhi, Option.bind_some]
      rw [okB (Nat.le_refl 0) (Nat.zero_le _)]
      rfl
    · simp only [List.take_zero, List.drop_zero]
      exact ⟨by simp, none, 0, rfl, fun i x hx => by simp at hx⟩
  · simp only [Value.slice.injEq] at hv
    obtain ⟨rfl, rfl, rfl⟩ := hv
    rw [(nble 1 1).2 (Nat.le_refl 1)]
    simp only [cond_true, csliceV]
    rcases hcap with ⟨hc1, hc2⟩ | rfl
    · rw [(nble_ff unk c).2 (by omega)]
      simp only [cond_false, csliceK, hlo, hhi, Option.bind_some]
      rw [okB h1 (by omega)]
      simp only [cond_true, subAddr]
      refine ⟨_, rfl, hs0.part hsz h1 h2 fun b' o' hb hlt => ?_⟩
      cases hb
      have : Nat.beq c l = false := (nbeq_ff _ _).2 (by omega)
      rw [this]
      rfl
    · rw [(nble unk (unk + 1)).2 (by omega)]
      simp only [cond_true, csliceU, hlo, hhi, Option.bind_some]
      rw [okB h1 h2, Nat.beq_refl]
      refine ⟨_, rfl, hs0.part hsz h1 h2 fun b' o' hb _ => ?_⟩
      cases hb
      rfl

theorem PG.slice {X : Cxt} {ops : List Oper} {ms : List OpM} {all N : Nat} {Q : KP} {l : List Oper} {lm : List OpM} {i : Nat} {h : CH} {o : Oper} {m : OpM} {L n d : Nat} {tm : PT Value} {ds : List Deferred} {rc : Option FrameMode} {hd : List Held} {t e : TypeId} {x : Operand} {lo hi : Option Operand} {v : Value} {vs : List Value} {l0 u0 : Nat}
    (hc : (!tb L i && floatOp o.op && depsIn m.deps L) = true) (hw : cwant ops tm o = some true) (ho : o.op = .slice t x lo hi none) (hx : ev tm x = some v) (hd' : o.dst = some d) (hl : Nat.ble (d + 1) n = true)
    (hs : Sl X.T e h v vs) (hu : X.T.und t = some (.slice e)) (hsz : X.T.size e = some 1) (hcap : CapOk v 1) (hlo : cbound tm 0 lo = some l0) (hhi : cbound tm vs.length hi = some u0) (h1 : l0 ≤ u0) (h2 : u0 ≤ vs.length)
    (hn : ∀ v', Sl X.T e h v' ((vs.take u0).drop l0) → PG X ops ms all N Q l lm (i + 1) ⟨Nat.lor L (2 ^ i), ⟨n, tm.set v' d, ds, rc⟩, ⟨i, o, tm, v'⟩ :: hd⟩ h) : PG X ops ms all N Q (o :: l) (m :: lm) i ⟨L, ⟨n, tm, ds, rc⟩, hd⟩ h := by
  obtain ⟨v', h3, h4⟩ := cslice_to (tm := tm) hs hu hsz hcap hlo hhi h1 h2
  exact PG.take hc hw hd' hl (by unfold cfl; simp only [ho, hx, Option.bind_some, h3]) (hn v' h4)
theorem Reck.inc {T : Tab} {B : Nat} {h : CH} {q : Held} {r r' : List Held} {t yt : TypeId} {x : Operand} {i : Nat} (ho : q.o.op = .binOp .add t x (.const (.int .i64 1)) yt) (hx : ev q.tm x = some (.int .i64 (i : Int))) (hv : q.v = .int .i64 ((i + 1 : Nat) : Int)) (hi : i + 1 < 9223372036854775808) (hr : Reck T B h r r') : Reck T B h (q :: r) (q :: r') :=
  .same (by
    unfold cfl
    simp only [ho, hx, Option.bind_some]
    rw [hv]
    exact cbin_inc (T := T) (h := h) (t := t) (xo := x) (yo := .const (.int .i64 1)) hi) hr
theorem st_take {nx : List (List Int)} {l : List Int} {k : Nat} : ∀ i, i ≤ k → k ≤ l.length → st nx (l.take k) i = st nx l i
  | 0, _, _ => rfl
  | i + 1, hi, hk => by
    show stepTo _ _ _ = stepTo _ _ _
    rw [st_take i (by omega) hk]
    congr 2
    rw [List.getD_eq_getElem?_getD, List.getD_eq_getElem?_getD, List.getElem?_take, if_pos (by omega)]
theorem rst_drop {nx : List (List Int)} {l : List Int} {k : Nat} : ∀ i, i + k ≤ l.length → rst nx (l.drop k) i = rst nx l i
  | 0, _ => rfl
  | i + 1, hi => by
    show stepTo _ _ _ = stepTo _ _ _
    rw [rst_drop i (by omega)]
    congr 2
    rw [List.getD_eq_getElem?_getD, List.getD_eq_getElem?_getD, List.getElem?_drop, List.length_drop]
    congr 2
    omega
theorem leftS_take {t : TabD} {l : List Int} {k : Nat} (hk : k ≤ l.length) : leftS t (l.take k) = (leftS t l).take (k + 1) := by
  unfold leftS
  rw [← List.map_take, List.take_range, List.length_take, Nat.min_eq_left hk, Nat.min_eq_left (by omega)]
  apply List.map_congr_left
  intro i hi
  rw [st_take i (by have := List.mem_range.1 hi; omega) hk]
theorem rightS_drop {t : TabD} {l : List Int} {k : Nat} (hk : k ≤ l.length) : rightS t (l.drop k) = (rightS t l).drop k := by
  apply List.ext_getElem?
  intro i
  rw [List.getElem?_drop]
  by_cases hi : k + i ≤ l.length
  · rw [rightS_get (t := t) (l := l.drop k) (i := i) (by simp; omega), rightS_get (t := t) (l := l) (i := k + i) hi]
    rw [List.length_drop, rst_drop _ (by omega)]
    congr 3
    omega
  · rw [List.getElem?_eq_none (by rw [rightS_length]; simp; omega), List.getElem?_eq_none (by rw [rightS_length]; omega)]
theorem UsableP.take {t : TabD} {l : List Int} {k : Nat} (h : UsableP t l) : UsableP t (l.take k) := ⟨h.1, fun c hc => h.2 c (List.mem_of_mem_take hc)⟩
theorem UsableP.drop {t : TabD} {l : List Int} {k : Nat} (h : UsableP t l) : UsableP t (l.drop k) := ⟨h.1, fun c hc => h.2 c (List.mem_of_mem_drop hc)⟩
/-- A list of numbers that is an argument, with its capacity. -/
theorem ints_argC {H : Type} {T : Tab} {h : CH} {t el : TypeId} {cv : Value} {d : DataW H} (hu : T.und t = some (.slice el)) (hs : T.size el = some 1) (hue : T.und el = some (.int .i64)) (hn : ∀ a, cv ≠ .agg a) (hh : Has T h t cv.cells.toList d) : ∃ l, SlI T el h cv l ∧ CapOk cv 1 := by
  obtain ⟨l, hl⟩ := ints_arg hu hs hue hn hh
  refine ⟨l, hl, ?_⟩
  rw [cells_one hn] at hh
  generalize hcs : [cv] = cs at hh
  cases hh with
  | int hu' _ => rw [hu] at hu'; cases hu'
  | bool hu' => rw [hu] at hu'; cases hu'
  | str hu' _ => rw [hu] at hu'; cases hu'
  | struct hu' => rw [hu] at hu'; cases hu'
  | nil hu' => simp only [List.cons.injEq, and_true] at hcs; exact .inl hcs
  | slice hu' hs' hl' hc' hsub hall =>
    simp only [List.cons.injEq, and_true] at hcs
    unfold maxLen at hc'
    exact .inr ⟨_, _, _, _, hcs, .inl ⟨hl', by unfold unk; omega⟩⟩
end Go.Cx

/- Patterns of break rules, as data; what the functions on patterns tell. -/
set_option linter.unusedSimpArgs false
set_option linter.unusedVariables false
namespace Go.Cx
inductive Pat where
  | mk (kind : Int) (classes : List Int) (subs : List Pat)
def Pat.kind : Pat → Int
  | .mk k _ _ => k
def Pat.classes : Pat → List Int
  | .mk _ c _ => c
def Pat.subs : Pat → List Pat
  | .mk _ _ s => s
/-- The types of numbers and of patterns. -/
structure PTys where
  int : TypeId
  pat : TypeId
inductive PatV (T : Tab) (k : PTys) (h : CH) : Value → Pat → Prop
  | mk {kind : Int} {c s : Value} {cls : List Int} {ps : List Pat} {vs : List Value} {u : Nat → Value} (oc : isOne c = true) (os : isOne s = true) (hc : SlI T k.int h c cls) (hs : Sl T k.pat h s vs) (hlen : vs.length = ps.length)
      (hu : ∀ (i : Nat), i < ps.length → vs[i]? = some (u i)) (hp : ∀ (i : Nat) p, ps[i]? = some p → PatV T k h (u i) p) : PatV T k h (.agg #[.int .i64 kind, c, s]) (.mk kind cls ps)
abbrev PatsV (T : Tab) (k : PTys) (h : CH) (v : Value) (l : List Pat) : Prop := SlA T k.pat (PatV T k h) h v l
theorem PatV.open {T : Tab} {k : PTys} {h : CH} {v : Value} {p : Pat} (hv : PatV T k h v p) : ∃ c s, v = .agg #[.int .i64 p.kind, c, s] ∧ isOne c = true ∧ isOne s = true ∧ SlI T k.int h c p.classes ∧ PatsV T k h s p.subs := by
  cases hv with
  | mk oc os hc hs hlen hu hp =>
    refine ⟨_, _, rfl, oc, os, hc, _, hs, hlen, fun i x hx => ⟨_, hu i ?_, hp i x hx⟩⟩
    exact (List.getElem?_eq_some_iff.1 hx).1
theorem PatV.gr {T : Tab} {k : PTys} {h h' : CH} (hw : h.wf) (g : Gr h h') {v : Value} {p : Pat} (hv : PatV T k h v p) : PatV T k h' v p := by
  induction hv with
  | mk oc os hc hs hlen hu hp ih => exact .mk oc os (Sl.gr hc hw g) (hs.gr hw g) hlen hu ih
theorem PatsV.gr {T : Tab} {k : PTys} {h h' : CH} (hw : h.wf) (g : Gr h h') {v : Value} {l : List Pat} (hv : PatsV T k h v l) : PatsV T k h' v l := by
  obtain ⟨vs, h1, h2, h3⟩ := hv
  exact ⟨vs, h1.gr hw g, h2, fun i x hx => let ⟨u, a, b⟩ := h3 i x hx; ⟨u, a, b.gr hw g⟩⟩
/-- Classes of one class pattern: n classes, or any number. -/
def SingleAt (n : Int) (l : List Int) (i : Nat) (c : Int) : Prop := 0 ≤ c ∧ (∀ y, 0 < i → l[i - 1]? = some y → y < c) ∧ (0 ≤ n → c ≤ n + 1 ∧ (n ≤ c → l.length ≤ 1))
def SingleP (n : Int) (l : List Int) : Prop := 0 < l.length ∧ ∀ (i : Nat) c, l[i]? = some c → SingleAt n l i c
/-- The form that a pattern's kind asks for. -/
def kindB (p : Pat) : Bool := decide (p.kind = 2 ∧ p.subs.length ≠ 1) || decide (p.kind = 3 ∧ 2 ≤ p.subs.length) || decide (p.kind = 4 ∧ p.subs.length = 1)
noncomputable def patOk (n : Int) : Nat → Pat → Bool
  | 0, _ => false
  | L + 1, p => cond (decide (p.kind = 1)) (decide (p.subs.length = 0) && tt (SingleP n p.classes)) (kindB p && decide (p.classes.length = 0) && p.subs.all (patOk n L))
mutual
def partsOf : Pat → Nat
  | .mk _ _ s => 1 + partsL s
def partsL : List Pat → Nat
  | [] => 0
  | p :: r => partsOf p + partsL r
end
theorem partsL_take {l : List Pat} {i : Nat} {p : Pat} (h : l[i]? = some p) : partsL (l.take (i + 1)) = partsL (l.take i) + partsOf p := by
  induction l generalizing i with
  | nil => simp at h
  | cons q l ih =>
    cases i with
    | zero => cases h; simp [partsL]
    | succ i =>
      simp only [List.take_succ_cons, partsL]
      rw [ih (by simpa using h)]
      omega
theorem partsL_le {l : List Pat} (i : Nat) : partsL (l.take i) ≤ partsL l := by
  induction l generalizing i with
  | nil => simp [partsL]
  | cons q l ih =>
    cases i with
    | zero => simp [partsL]
    | succ i => simp only [List.take_succ_cons, partsL]; have := ih i; omega
theorem cbin_add1 {T : Tab} {h : CH} {t : TypeId} {xo yo : Operand} {n : Int} (h0 : -9223372036854775808 ≤ n + 1) (h1 : n + 1 < 9223372036854775808) : cbin T h .add t xo yo (.int .i64 n) (.int .i64 1) = some (.int .i64 (n + 1)) := by
  show some (Value.int .i64 (IntKind.wrap .i64 (n + 1))) = _
  rw [IntKind.wrap_i64]
  congr 2
  omega
theorem cbin_addN {T : Tab} {h : CH} {t : TypeId} {xo yo : Operand} {n m : Nat} (h1 : n + m < 9223372036854775808) : cbin T h .add t xo yo (.int .i64 (n : Int)) (.int .i64 (m : Int)) = some (.int .i64 ((n + m : Nat) : Int)) := by
  show some (Value.int .i64 (IntKind.wrap .i64 ((n : Int) + m))) = _
  have : ((n : Int) + m) = ((n + m : Nat) : Int) := by omega
  rw [this, wrap_nat h1]
end Go.Cx

/- Break rules, as data. -/
set_option linter.unusedSimpArgs false
set_option linter.unusedVariables false
namespace Go.Cx
structure RuleD where
  action : Int
  left : Pat
  right : Pat
def RuleV (T : Tab) (k : PTys) (h : CH) (v : Value) (r : RuleD) : Prop :=
  ∃ lc ls rc rs, v = .agg #[.int .i64 r.action, .int .i64 r.left.kind, lc, ls, .int .i64 r.right.kind, rc, rs] ∧ (isOne lc && isOne ls && isOne rc && isOne rs) = true ∧ PatV T k h (.agg #[.int .i64 r.left.kind, lc, ls]) r.left ∧ PatV T k h (.agg #[.int .i64 r.right.kind, rc, rs]) r.right
theorem RuleV.gr {T : Tab} {k : PTys} {h h' : CH} (hw : h.wf) (g : Gr h h') {v : Value} {r : RuleD} (hv : RuleV T k h v r) : RuleV T k h' v r := by
  obtain ⟨lc, ls, rc, rs, h1, h2, h3, h4⟩ := hv
  exact ⟨lc, ls, rc, rs, h1, h2, h3.gr hw g, h4.gr hw g⟩
abbrev RulesV (T : Tab) (k : PTys) (rule : TypeId) (h : CH) (v : Value) (l : List RuleD) : Prop := SlA T rule (RuleV T k h) h v l
theorem RulesV.gr {T : Tab} {k : PTys} {rule : TypeId} {h h' : CH} (hw : h.wf) (g : Gr h h') {v : Value} {l : List RuleD} (hv : RulesV T k rule h v l) : RulesV T k rule h' v l := by
  obtain ⟨vs, h1, h2, h3⟩ := hv
  exact ⟨vs, h1.gr hw g, h2, fun i x hx => let ⟨u, a, b⟩ := h3 i x hx; ⟨u, a, b.gr hw g⟩⟩
structure RulesD where
  classes : List ByteArray
  rules : List RuleD
def BreakV (T : Tab) (str : TypeId) (k : PTys) (rule : TypeId) (h : CH) (v : Value) (r : RulesD) : Prop :=
  ∃ c s, v = .agg #[c, s] ∧ isOne c = true ∧ isOne s = true ∧ SlS T str h c r.classes ∧ RulesV T k rule h s r.rules
theorem BreakV.gr {T : Tab} {str : TypeId} {k : PTys} {rule : TypeId} {h h' : CH} (hw : h.wf) (g : Gr h h') {v : Value} {r : RulesD} (hv : BreakV T str k rule h v r) : BreakV T str k rule h' v r := by
  obtain ⟨c, s, h1, h2, h3, h4, h5⟩ := hv
  exact ⟨c, s, h1, h2, h3, h4.gr hw g, h5.gr hw g⟩
noncomputable def ruleOk (n : Int) (r : RuleD) : Bool := decide (1 ≤ r.action ∧ r.action ≤ 3) && patOk n 16 r.left && patOk n 16 r.right
def partsR : List RuleD → Nat
  | [] => 0
  | r :: l => partsOf r.left + partsOf r.right + partsR l
theorem partsR_take {l : List RuleD} {i : Nat} {p : RuleD} (h : l[i]? = some p) : partsR (l.take (i + 1)) = partsR (l.take i) + (partsOf p.left + partsOf p.right) := by
  induction l generalizing i with
  | nil => simp at h
  | cons q l ih =>
    cases i with
    | zero => cases h; simp [partsR]
    | succ i =>
      simp only [List.take_succ_cons, partsR]
      rw [ih (by simpa using h)]
      omega
theorem partsR_le {l : List RuleD} {m : Nat} (h : ∀ r, r ∈ l → partsOf r.left + partsOf r.right ≤ m) : partsR l ≤ l.length * m := by
  induction l with
  | nil => simp [partsR]
  | cons q l ih =>
    have h1 := h q (List.mem_cons_self ..)
    have h2 := ih fun r hr => h r (List.mem_cons_of_mem _ hr)
    simp only [partsR, List.length_cons, Nat.succ_mul]
    omega
theorem partsOf_mem {l : List Pat} {p : Pat} (h : p ∈ l) : partsOf p ≤ partsL l := by
  induction l with
  | nil => cases h
  | cons q l ih =>
    simp only [partsL]
    rcases List.mem_cons.1 h with rfl | h
    · omega
    · have := ih h; omega
/-- What Check says. -/
noncomputable def checkR (r : RulesD) : Int :=
  cond (tt (NamesP r.classes)) (cond (r.rules.all (ruleOk r.classes.length)) (cond (decide (r.rules.length ≤ 100) && decide (partsR r.rules ≤ 4000)) 0 2) 8) 6
end Go.Cx

/- Break rules: canonical readings, and what the reference's functions tell. -/
set_option linter.unusedSimpArgs false
set_option linter.unusedVariables false
namespace Go.Cx
section
variable {H : Type} {T : Tab} {h : CH}
structure PatTys (T : Tab) (k : PTys) (ints subs : TypeId) : Prop where
  pat : ∃ fs : Array Field, T.und k.pat = some (.struct fs) ∧ fs.toList.map (·.type) = [k.int, ints, subs]
  ints : T.und ints = some (.slice k.int)
  subs : T.und subs = some (.slice k.pat)
  int : T.und k.int = some (.int .i64)
  sint : T.size k.int = some 1
  spat : T.size k.pat = some 3
theorem cpart_agg {t : TypeId} {fs : Array Field} {n : Nat} (hu : T.und t = some (.struct fs)) (hs : T.size t = some n) (cs : List Value) (off : Nat) : cpart T t cs off = (lsub cs off n).map fun l => .agg l.toArray := by
  obtain ⟨i, h1, h2⟩ := obind hu
  obtain ⟨i', h3, h4⟩ := omap hs
  rw [h1] at h3
  cases h3
  unfold cpart
  rw [h1]
  simp only [Option.bind_some, h2, isAggD, cond_true, h4]
/-- A slice of structs. -/
theorem sliceS_of {el : TypeId} {fs : Array Field} {n b o c : Nat} {ds : List (DataW H)} {l : Nat → List Value} (hu : T.und el = some (.struct fs)) (hs : T.size el = some n) (hl : ds.length < 9223372036854775808)
    (hsub : ∀ i x, ds[i]? = some x → ∃ cs ro fz, h.get b = some (.cells cs ro fz) ∧ lsub cs (o + i * n) n = some (l i)) : Sl T el h (.slice (some ⟨b, o, none⟩) ds.length c) ((List.range ds.length).map fun i => .agg (l i).toArray) := by
  refine ⟨by simpa using hl, some ⟨b, o, none⟩, c, by simp, fun i x hx => ?_⟩
  rw [List.getElem?_map] at hx
  obtain ⟨j, hj, rfl⟩ := Option.map_eq_some_iff.1 hx
  obtain ⟨hi, hji⟩ := List.getElem?_eq_some_iff.1 hj
  simp at hji hi
  subst hji
  obtain ⟨cs, ro, fz, h1, h2⟩ := hsub i _ (List.getElem?_eq_getElem hi)
  exact ⟨b, o, cs, ro, fz, n, rfl, hs, h1, by rw [cpart_agg hu hs, h2]; rfl⟩
theorem chooseN {α : Type} {n : Nat} {S : Nat → α → Prop} (h : ∀ i, i < n → ∃ a, S i a) : ∃ l : List α, l.length = n ∧ ∀ (i : Nat) a, l[i]? = some a → S i a := by
  induction n with
  | zero => exact ⟨[], rfl, fun i a hi => by simp at hi⟩
  | succ n ih =>
    obtain ⟨l, h1, h2⟩ := ih fun i hi => h i (by omega)
    obtain ⟨a, ha⟩ := h n (by omega)
    refine ⟨l ++ [a], by simp [h1], fun i b hb => ?_⟩
    rcases Nat.lt_or_ge i n with h3 | h3
    · rw [List.getElem?_append_left (by omega)] at hb
      exact h2 i b hb
    · rw [List.getElem?_append_right (by omega)] at hb
      have : i = n := by
        have := (List.getElem?_eq_some_iff.1 hb).1
        simp at this
        omega
      subst this
      rw [h1, Nat.sub_self] at hb
      cases hb
      exact ha
/-- What the parts of a pattern read as. -/
def PatG (T : Tab) (k : PTys) (h : CH) (cs : List Value) : Prop := ∃ p, PatV T k h (.agg cs.toArray) p
def SubsG (T : Tab) (k : PTys) (h : CH) (cs : List Value) : Prop := ∃ v l, cs = [v] ∧ isOne v = true ∧ PatsV T k h v l
theorem patsV_of {k : PTys} {b o c : Nat} {ds : List (DataW H)} {l : Nat → List Value} (hs : Sl T k.pat h (.slice (some ⟨b, o, none⟩) ds.length c) ((List.range ds.length).map fun i => .agg (l i).toArray)) (hp : ∀ i, i < ds.length → PatG T k h (l i)) :
    ∃ ps, PatsV T k h (.slice (some ⟨b, o, none⟩) ds.length c) ps := by
  obtain ⟨ps, h1, h2⟩ := chooseN hp
  refine ⟨ps, _, hs, by simp [h1], fun i p hi => ⟨_, ?_, h2 i p hi⟩⟩
  have := (List.getElem?_eq_some_iff.1 hi).1
  rw [List.getElem?_map, List.getElem?_range (by omega)]
  rfl
theorem patG_slice {k : PTys} {ints subs : TypeId} (ht : PatTys T k ints subs) {t e : TypeId} {b o c s : Nat} {ds : List (DataW H)} {l : Nat → List Value} (hu : T.und t = some (.slice e)) (hs : T.size e = some s) (hl : ds.length ≤ c) (hc : c ≤ maxLen)
    (hsub : ∀ i x, ds[i]? = some x → ∃ cs ro fz, h.get b = some (.cells cs ro fz) ∧ lsub cs (o + i * s) s = some (l i)) (ih : ∀ i x, ds[i]? = some x → e = k.pat → PatG T k h (l i)) : (t = k.pat → PatG T k h [.slice (some ⟨b, o, none⟩) ds.length c]) ∧ (t = subs → SubsG T k h [.slice (some ⟨b, o, none⟩) ds.length c]) := by
  refine ⟨fun e => (by obtain ⟨fs, h1, _⟩ := ht.pat; rw [e, h1] at hu; cases hu), fun e' => ?_⟩
  rw [e', ht.subs] at hu
  cases hu
  rw [ht.spat] at hs
  cases hs
  obtain ⟨fs, h1, _⟩ := ht.pat
  unfold maxLen at hc
  obtain ⟨ps, h2⟩ := patsV_of (sliceS_of h1 ht.spat (by omega) hsub) (fun i hi => ih i _ (List.getElem?_eq_getElem hi) rfl)
  exact ⟨_, ps, rfl, rfl, h2⟩
mutual
theorem Has.patG {k : PTys} {ints subs : TypeId} (ht : PatTys T k ints subs) : ∀ {t : TypeId} {cs : List Value} {d : DataW H}, Has T h t cs d → (t = k.pat → PatG T k h cs) ∧ (t = subs → SubsG T k h cs)
  | _, _, _, .bool hu => ⟨fun e => (by obtain ⟨fs, h1, _⟩ := ht.pat; rw [e, h1] at hu; cases hu), fun e => (by rw [e, ht.subs] at hu; cases hu)⟩
  | _, _, _, .int hu _ => ⟨fun e => (by obtain ⟨fs, h1, _⟩ := ht.pat; rw [e, h1] at hu; cases hu), fun e => (by rw [e, ht.subs] at hu; cases hu)⟩
  | _, _, _, .str hu _ => ⟨fun e => (by obtain ⟨fs, h1, _⟩ := ht.pat; rw [e, h1] at hu; cases hu), fun e => (by rw [e, ht.subs] at hu; cases hu)⟩
  | _, _, _, .nil hu => ⟨fun e => (by obtain ⟨fs, h1, _⟩ := ht.pat; rw [e, h1] at hu; cases hu), fun _ => ⟨_, [], rfl, rfl, [], ⟨by simp, none, 0, rfl, fun i x hx => by simp at hx⟩, rfl, fun i x hx => by simp at hx⟩⟩
  | _, _, _, .slice hu hs hl hc hsub hall =>
    patG_slice ht hu hs hl hc hsub fun i x hx => (Has.patG ht (hall i x hx)).1
  | _, _, _, .struct hu hs hf =>
    ⟨fun e => by
      obtain ⟨fs, h1, h2⟩ := ht.pat
      rw [e, h1] at hu
      cases hu
      exact (HasL.patG ht hf).1 h2, fun e => (by rw [e, ht.subs] at hu; cases hu)⟩
theorem HasL.patG {k : PTys} {ints subs : TypeId} (ht : PatTys T k ints subs) : ∀ {fs : List Field} {cs : List Value} {ds : List (DataW H)}, HasL T h fs cs ds →
    (fs.map (·.type) = [k.int, ints, subs] → PatG T k h cs) ∧ (fs.map (·.type) = [ints, subs] → ∃ c s cls ps, cs = [c, s] ∧ isOne c = true ∧ isOne s = true ∧ SlI T k.int h c cls ∧ PatsV T k h s ps) ∧ (fs.map (·.type) = [subs] → SubsG T k h cs)
  | _, _, _, .nil => ⟨fun e => (by cases e), fun e => (by cases e), fun e => (by cases e)⟩
  | _, _, _, .cons hs hx hr => by
    have ih1 := Has.patG ht hx
    have ih2 := HasL.patG ht hr
    refine ⟨fun e => ?_, fun e => ?_, fun e => ?_⟩
    · simp only [List.map_cons, List.cons.injEq] at e
      obtain ⟨e1, e2⟩ := e
      rw [e1] at hx
      obtain ⟨n, rfl⟩ := int_of ht.int hx
      obtain ⟨c, s, cls, ps, rfl, h1, h2, h3, h4⟩ := ih2.2.1 e2
      obtain ⟨vs, k1, k2, k3⟩ := h4
      refine ⟨.mk n cls ps, ?_⟩
      exact .mk (u := fun i => (vs[i]?).getD undefV) h1 h2 h3 k1 k2 (fun i hi => by rw [List.getElem?_eq_getElem (by omega)]; rfl) (fun i p hp => by
        obtain ⟨u, k4, k5⟩ := k3 i p hp
        rw [k4]
        exact k5)
    · simp only [List.map_cons, List.cons.injEq] at e
      obtain ⟨e1, e2⟩ := e
      rw [e1] at hx
      obtain ⟨c, cls, rfl, h1, h2⟩ := ints_of ht.ints ht.sint ht.int hx
      obtain ⟨s, ps, rfl, h3, h4⟩ := ih2.2.2 e2
      exact ⟨c, s, cls, ps, rfl, h1, h3, h2, h4⟩
    · simp only [List.map_cons, List.cons.injEq, List.map_eq_nil_iff] at e
      obtain ⟨e1, e2⟩ := e
      subst e2
      cases hr
      rw [List.append_nil]
      exact ih1.2 e1
end
end

/-! ### What the reference's functions on patterns tell -/
def partsM (most : Nat) (p : Pat) : Nat := min (partsOf p) (most + 1)
def deepB : Nat → Pat → Bool
  | 0, _ => false
  | L + 1, p => decide (p.classes.length ≤ 60) && p.subs.all (deepB L)
def smallPB (p : Pat) : Bool := decide (partsOf p ≤ 300) && deepB 20 p
def wideB (r : RulesD) : Bool := decide (r.classes.length ≤ 70) && decide (r.rules.length ≤ 110) && r.rules.all fun x => smallPB x.left && smallPB x.right
end Go.Cx

/- Break rules: an element's fields; plain laws of the reference's functions; arguments read as rules. -/
set_option linter.unusedSimpArgs false
set_option linter.unusedVariables false
namespace Go.Cx
theorem cbin_subI {T : Tab} {h : CH} {t : TypeId} {xo yo : Operand} {n m : Int} (h0 : -9223372036854775808 ≤ n - m) (h1 : n - m < 9223372036854775808) : cbin T h .sub t xo yo (.int .i64 n) (.int .i64 m) = some (.int .i64 (n - m)) := by
  show some (Value.int .i64 (IntKind.wrap .i64 (n - m))) = _
  rw [IntKind.wrap_i64]
  congr 2
  omega
theorem cbin_addI {T : Tab} {h : CH} {t : TypeId} {xo yo : Operand} {n m : Int} (h0 : -9223372036854775808 ≤ n + m) (h1 : n + m < 9223372036854775808) : cbin T h .add t xo yo (.int .i64 n) (.int .i64 m) = some (.int .i64 (n + m)) := by
  show some (Value.int .i64 (IntKind.wrap .i64 (n + m))) = _
  rw [IntKind.wrap_i64]
  congr 2
  omega
/-- An element of a slice of rules, with its cells. -/
theorem RulesV.read {T : Tab} {k : PTys} {rule ts : TypeId} {fs : Array Field} {h : CH} {v : Value} {l : List RuleD} {i : Nat} {r : RuleD} (hu : T.und rule = some (.struct fs)) (hs : T.size rule = some 7) (hts : T.und ts = some (.slice rule)) (hv : RulesV T k rule h v l) (hr : l[i]? = some r) (kk : IntKind) :
    ∃ b o cs ro fz lc ls rc rs, cindexAddr T ts v (.int kk (i : Int)) = some (.pointer (some ⟨b, o, none⟩)) ∧ h.get b = some (.cells cs ro fz) ∧ (isOne lc && isOne ls && isOne rc && isOne rs) = true ∧ lsub cs o 7 = some [.int .i64 r.action, .int .i64 r.left.kind, lc, ls, .int .i64 r.right.kind, rc, rs] ∧
      PatV T k h (.agg #[.int .i64 r.left.kind, lc, ls]) r.left ∧ PatV T k h (.agg #[.int .i64 r.right.kind, rc, rs]) r.right := by
  obtain ⟨vs, ⟨hl, a, c, rfl, h2⟩, h3, h4⟩ := hv
  obtain ⟨u, hu1, lc, ls, rc, rs, rfl, ho, hL, hR⟩ := h4 i r hr
  obtain ⟨b, o, cs, ro, fz, s, rfl, k2, k3, k4⟩ := h2 i _ hu1
  have hlt : i < vs.length := (List.getElem?_eq_some_iff.1 hu1).1
  rw [hs] at k2
  cases k2
  rw [cpart_agg hu hs] at k4
  obtain ⟨l', h5, h6⟩ := omap k4
  simp only [Value.agg.injEq] at h6
  have h7 : l' = [.int .i64 r.action, .int .i64 r.left.kind, lc, ls, .int .i64 r.right.kind, rc, rs] := by
    have := congrArg Array.toList h6
    simpa using this
  subst h7
  refine ⟨b, o + i * 7, cs, ro, fz, lc, ls, rc, rs, ?_, k3, ho, h5, hL, hR⟩
  unfold cindexAddr
  rw [hts]
  simp only [Option.bind_some, rowOf, natOf_cast, hs]
  rw [(nble _ _).2 hlt]
  rfl
theorem lsub_lsub {α : Type} {l r : List α} {o n o' n' : Nat} (h : lsub l o n = some r) (hn : o' + n' ≤ n) : lsub l (o + o') n' = some ((r.drop o').take n') := by
  obtain ⟨h1, rfl⟩ := lsub_some _ _ _ _ h
  rw [lsub_of _ _ _ (by omega)]
  congr 1
  apply List.ext_getElem?
  intro i
  simp only [List.getElem?_take, List.getElem?_drop]
  by_cases hi : i < n'
  · rw [if_pos hi, if_pos hi, if_pos (by omega), Nat.add_assoc]
  · rw [if_neg hi, if_neg hi]
theorem cload_sub {T : Tab} {h : CH} {t : TypeId} {fs : Array Field} {b o o' n n' : Nat} {cs r : List Value} {ro fz : Bool} (hu : T.und t = some (.struct fs)) (hs : T.size t = some n') (hg : h.get b = some (.cells cs ro fz)) (hr : lsub cs o n = some r) (hn : o' + n' ≤ n) :
    cload T h t (.pointer (some ⟨b, o + o', none⟩)) = some (.agg ((r.drop o').take n').toArray) :=
  cload_of hg (by rw [cpart_agg hu hs, lsub_lsub hr hn]; rfl)

theorem cblt_min {T : Tab} {h : CH} {ts : List TypeId} {a b : Nat} : cblt T h .min ts [.int .i64 (a : Int), .int .i64 (b : Int)] = some (.int .i64 ((min a b : Nat) : Int)) := by
  show some (Value.int .i64 (if (b : Int) < (a : Int) then (b : Int) else (a : Int))) = _
  congr 2
  split <;> omega
/-! ### One class patterns, as the reference tells them -/
theorem asc_le {l : List Int} (hasc : ∀ (j : Nat) a b, 0 < j → l[j]? = some b → l[j - 1]? = some a → a < b) : ∀ (d j : Nat) a b, l[j]? = some a → l[j + d]? = some b → a ≤ b
  | 0, j, a, b, h1, h2 => by rw [Nat.add_zero, h1] at h2; cases h2; omega
  | d + 1, j, a, b, h1, h2 => by
    obtain ⟨m, hm⟩ : ∃ m, l[j + d]? = some m := ⟨_, List.getElem?_eq_getElem (by have := (List.getElem?_eq_some_iff.1 h2).1; omega)⟩
    have h3 := asc_le hasc d j a m h1 hm
    have h4 := hasc (j + (d + 1)) m b (by omega) h2 (by rw [show j + (d + 1) - 1 = j + d by omega]; exact hm)
    omega
theorem single_ref {n last first : Int} {l : List Int} (hlen : 0 < l.length) (hlast : l[l.length - 1]? = some last) (hf : l[0]? = some first) (h0 : 0 ≤ first) (hasc : ∀ (j : Nat) a b, 0 < j → l[j]? = some b → l[j - 1]? = some a → a < b) :
    tt (SingleP n l) = (decide (n < 0) || (decide (last < n) || (decide (last ≤ n + 1) && decide (l.length = 1)))) := by
  have hle : ∀ (j : Nat) c, l[j]? = some c → first ≤ c ∧ c ≤ last := fun j c hc => by
    have hj := (List.getElem?_eq_some_iff.1 hc).1
    refine ⟨asc_le hasc j 0 first c hf (by rw [Nat.zero_add]; exact hc), asc_le hasc (l.length - 1 - j) j c last hc (by rw [show j + (l.length - 1 - j) = l.length - 1 by omega]; exact hlast)⟩
  have main : SingleP n l ↔ (n < 0 ∨ last < n ∨ (last ≤ n + 1 ∧ l.length = 1)) := by
    constructor
    · rintro ⟨_, hs⟩
      obtain ⟨h1, h2, h3⟩ := hs _ _ hlast
      by_cases hn : n < 0
      · exact .inl hn
      obtain ⟨h4, h5⟩ := h3 (by omega)
      by_cases h6 : last < n
      · exact .inr (.inl h6)
      · exact .inr (.inr ⟨h4, by have := h5 (by omega); omega⟩)
    · intro h
      refine ⟨hlen, fun i c hc => ?_⟩
      obtain ⟨h1, h2⟩ := hle i c hc
      refine ⟨by omega, fun y hi hy => hasc i y c hi hc hy, fun hn => ?_⟩
      rcases h with h | h | ⟨h, h'⟩
      · omega
      · exact ⟨by omega, fun h => by omega⟩
      · exact ⟨by omega, fun _ => by omega⟩
  by_cases h : SingleP n l
  · rw [tt_t h]
    rcases main.1 h with h | h | ⟨h, h'⟩
    · simp [h]
    · simp [h]
    · simp [h, h']
  · rw [tt_f h]
    have : ¬ (n < 0 ∨ last < n ∨ (last ≤ n + 1 ∧ l.length = 1)) := fun hh => h (main.2 hh)
    simp only [not_or, not_and] at this
    obtain ⟨h1, h2, h3⟩ := this
    by_cases h4 : last ≤ n + 1
    · simp [h1, h2, h4, h3 h4]
    · simp [h1, h2, h4]
theorem single_bad {n : Int} {l : List Int} (h : ¬ (0 < l.length ∧ (∀ c, l[0]? = some c → 0 ≤ c) ∧ ∀ (j : Nat) a b, 0 < j → l[j]? = some b → l[j - 1]? = some a → a < b)) : tt (SingleP n l) = false := by
  refine tt_f fun hs => h ⟨hs.1, fun c hc => (hs.2 0 c hc).1, fun j a b h0 hb ha => (hs.2 j b hb).2.1 a h0 ha⟩

/-! ### Arguments -/
section
variable {H : Type} {T : Tab} {h : CH}
structure BreakTys (T : Tab) (str : TypeId) (k : PTys) (rule ints subs strs rules br : TypeId) : Prop where
  hpat : PatTys T k ints subs
  hrule : ∃ fs : Array Field, T.und rule = some (.struct fs) ∧ fs.toList.map (·.type) = [k.int, k.pat, k.pat]
  hbr : ∃ fs : Array Field, T.und br = some (.struct fs) ∧ fs.toList.map (·.type) = [strs, rules]
  hrules : T.und rules = some (.slice rule)
  hstrs : T.und strs = some (.slice str)
  hstr : T.und str = some .string
  hsstr : T.size str = some 1
  hsrule : T.size rule = some 7
theorem pat_cells {k : PTys} {ints subs : TypeId} (ht : PatTys T k ints subs) {cs : List Value} {d : DataW H} (hh : Has T h k.pat cs d) : ∃ p c s, cs = [.int .i64 p.kind, c, s] ∧ isOne c = true ∧ isOne s = true ∧ PatV T k h (.agg #[.int .i64 p.kind, c, s]) p := by
  obtain ⟨p, hp⟩ := (Has.patG ht hh).1 rfl
  obtain ⟨c, s, h1, h2, h3, _⟩ := hp.open
  have h4 : cs = [.int .i64 p.kind, c, s] := by
    have := congrArg (fun v => match v with | Value.agg a => a.toList | _ => []) h1
    simpa using this
  subst h4
  exact ⟨p, c, s, rfl, h2, h3, hp⟩
theorem three_of {fs : List Field} {a b c : TypeId} {cs : List Value} {xs : List (DataW H)} (hf : fs.map (·.type) = [a, b, c]) (hh : HasL T h fs cs xs) : ∃ (c1 c2 c3 : List Value) (d1 d2 d3 : DataW H), cs = c1 ++ (c2 ++ c3) ∧ Has T h a c1 d1 ∧ Has T h b c2 d2 ∧ Has T h c c3 d3 := by
  cases hh with
  | nil => cases hf
  | cons hs hx hr =>
    simp only [List.map_cons, List.cons.injEq] at hf
    obtain ⟨rfl, hf⟩ := hf
    obtain ⟨c2, c3, d2, d3, rfl, h1, h2⟩ := two_of hf hr
    exact ⟨_, c2, c3, _, d2, d3, rfl, hx, h1, h2⟩
theorem ruleV_of {k : PTys} {str rule ints subs strs rules br : TypeId} (ht : BreakTys T str k rule ints subs strs rules br) {cs : List Value} {d : DataW H} (hh : Has T h rule cs d) : ∃ r, RuleV T k h (.agg cs.toArray) r := by
  obtain ⟨fs, hu, hf⟩ := ht.hrule
  cases hh with
  | int hu' _ => rw [hu] at hu'; cases hu'
  | bool hu' => rw [hu] at hu'; cases hu'
  | str hu' _ => rw [hu] at hu'; cases hu'
  | nil hu' => rw [hu] at hu'; cases hu'
  | slice hu' => rw [hu] at hu'; cases hu'
  | struct hu' hs hfs =>
    rw [hu] at hu'
    cases hu'
    obtain ⟨c1, c2, c3, d1, d2, d3, rfl, h1, h2, h3⟩ := three_of hf hfs
    obtain ⟨n, rfl⟩ := int_of ht.hpat.int h1
    obtain ⟨p, c, s, rfl, o1, o2, hp⟩ := pat_cells ht.hpat h2
    obtain ⟨q, c', s', rfl, o3, o4, hq⟩ := pat_cells ht.hpat h3
    exact ⟨⟨n, p, q⟩, c, s, c', s', rfl, by rw [o1, o2, o3, o4]; rfl, hp, hq⟩
/-- Slices of structs, as what their elements tell. -/
theorem slA_of {el ts : TypeId} {fs : Array Field} {α : Type} {S : Value → α → Prop} {cs : List Value} {d : DataW H} {n : Nat} (hts : T.und ts = some (.slice el)) (hu : T.und el = some (.struct fs)) (hs : T.size el = some n) (hh : Has T h ts cs d) (hS : ∀ cs (d : DataW H), Has T h el cs d → ∃ a, S (.agg cs.toArray) a) : ∃ v l, cs = [v] ∧ isOne v = true ∧ SlA T el S h v l := by
  cases hh with
  | int hu' _ => rw [hts] at hu'; cases hu'
  | bool hu' => rw [hts] at hu'; cases hu'
  | str hu' _ => rw [hts] at hu'; cases hu'
  | struct hu' => rw [hts] at hu'; cases hu'
  | nil hu' => exact ⟨_, [], rfl, rfl, [], ⟨by simp, none, 0, rfl, fun i x hx => by simp at hx⟩, rfl, fun i x hx => by simp at hx⟩
  | slice hu' hs' hl hc hsub hall =>
    rw [hts] at hu'
    cases hu'
    rw [hs] at hs'
    cases hs'
    rename_i b o c ds rest l
    unfold maxLen at hc
    have h1 := sliceS_of (c := c) hu hs (by omega) hsub
    obtain ⟨ps, h2, h3⟩ := chooseN (n := ds.length) (S := fun i a => S (.agg (l i).toArray) a) fun i hi => hS _ _ (hall i _ (List.getElem?_eq_getElem hi))
    refine ⟨_, ps, rfl, rfl, _, h1, by simp [h2], fun i p hi => ⟨_, ?_, h3 i p hi⟩⟩
    have := (List.getElem?_eq_some_iff.1 hi).1
    rw [List.getElem?_map, List.getElem?_range (by omega)]
    rfl
theorem strsC_of {ts str : TypeId} {cs : List Value} {d : DataW H} (hu : T.und ts = some (.slice str)) (hs : T.size str = some 1) (hue : T.und str = some .string) (hh : Has T h ts cs d) : ∃ v l, cs = [v] ∧ isOne v = true ∧ SlS T str h v l ∧ CapOk v 1 ∧ ∀ s, s ∈ l → s.data.toList.length < 9223372036854775808 := by
  have hcap : ∀ v, cs = [v] → CapOk v 1 := by
    intro v hv
    cases hh with
    | int hu' _ => rw [hu] at hu'; cases hu'
    | bool hu' => rw [hu] at hu'; cases hu'
    | str hu' _ => rw [hu] at hu'; cases hu'
    | nil hu' => cases hv; exact .inl rfl
    | struct hu' => rw [hu] at hu'; cases hu'
    | slice hu' hs' hl hc hsub hall =>
      cases hv
      unfold maxLen at hc
      exact .inr ⟨_, _, _, _, rfl, .inl ⟨hl, by unfold unk; omega⟩⟩
  obtain ⟨v, vs, rfl, ho, h1, h2⟩ := slice_of hu hs hue rfl hh
  have key : ∀ l : List Value, (∀ x, x ∈ l → ∃ d : DataW H, Has T h str [x] d) → ∃ ss : List ByteArray, l = ss.map Value.string ∧ ∀ s, s ∈ ss → s.data.toList.length < 9223372036854775808 := by
    intro l
    induction l with
    | nil => exact fun _ => ⟨[], rfl, fun s hs => by cases hs⟩
    | cons x l ih =>
      intro hall
      obtain ⟨d, hd⟩ := hall x (List.mem_cons_self ..)
      obtain ⟨s, h3, h4⟩ := str_of hue hd
      cases h3
      obtain ⟨ss, rfl, h5⟩ := ih fun y hy => hall y (List.mem_cons_of_mem _ hy)
      exact ⟨s :: ss, rfl, fun y hy => by rcases List.mem_cons.1 hy with rfl | hy; exact h4; exact h5 y hy⟩
  obtain ⟨ss, rfl, h3⟩ := key vs h2
  exact ⟨v, ss, rfl, ho, h1, hcap v rfl, h3⟩
/-- Arguments that are break rules. -/
theorem break_of {k : PTys} {str rule ints subs strs rules br : TypeId} (ht : BreakTys T str k rule ints subs strs rules br) {cs : List Value} {d : DataW H} (hh : Has T h br cs d) :
    ∃ c s r, cs = [c, s] ∧ BreakV T str k rule h (.agg #[c, s]) r ∧ CapOk c 1 ∧ ∀ s, s ∈ r.classes → s.data.toList.length < 9223372036854775808 := by
  obtain ⟨fs, hu, hf⟩ := ht.hbr
  cases hh with
  | int hu' _ => rw [hu] at hu'; cases hu'
  | bool hu' => rw [hu] at hu'; cases hu'
  | str hu' _ => rw [hu] at hu'; cases hu'
  | nil hu' => rw [hu] at hu'; cases hu'
  | slice hu' => rw [hu] at hu'; cases hu'
  | struct hu' hs hfs =>
    rw [hu] at hu'
    cases hu'
    obtain ⟨c1, c2, d1, d2, rfl, h1, h2⟩ := two_of hf hfs
    obtain ⟨c, cl, rfl, o1, hc, hcap, hl⟩ := strsC_of ht.hstrs ht.hsstr ht.hstr h1
    obtain ⟨rfs, hru, _⟩ := ht.hrule
    obtain ⟨s, rl, rfl, o2, hr⟩ := slA_of ht.hrules hru ht.hsrule h2 fun cs d hd => ruleV_of ht hd
    exact ⟨c, s, ⟨cl, rl⟩, rfl, ⟨c, s, rfl, o1, o2, hc, hr⟩, hcap, hl⟩
end
end Go.Cx

/- Arguments of recursive types: a closed set of types. Printed by mk51.py out of Cx33 and Cx37. -/
set_option linter.unusedSimpArgs false
set_option linter.unusedVariables false
namespace Go.Cx
open Go.RowKit (Below)
def tyOk1 (T : Tab) (ok : TypeId → Bool) (t : TypeId) : Bool := match T.und t, T.size t with
  | some .bool, some 1 => true
  | some (.int _), some 1 => true
  | some .string, some 1 => true
  | some (.slice e), some 1 => (match T.size e with | some (_ + 1) => true | _ => false) && ok e
  | some (.struct fs), some s => rowsOk T ok fs.toList 0 s
  | _, _ => false
theorem tyOk1_of {T : Tab} {l : List Nat} (h : l.all (tyOk1 T fun t => l.contains t) = true) : ∀ t, l.contains t = true → tyOk1 T (fun t => l.contains t) t = true := fun t ht =>
  List.all_eq_true.1 h t (by simpa using ht)
section
variable {H : Type} {enc : TypeId × Value → H} {P : Program} {T : Tab} {B0 : Nat} {w0 w : World} {held : Bool}
theorem conv_sliceG {ok : TypeId → Bool} {fuel : Nat} (ih : ∀ (t : TypeId) (cs : List Value) (d : DataW H) (ps : List MemPlace), ok t = true → DataW.trod enc P w 0 (fun _ => true) held fuel t cs = some (d, ps) → ∀ e h, R B0 w0 e h w → NoWr h → Conv1 H T B0 w0 w t cs d e h)
    (hT : TabOk P T) (hwb : B0 = w.heap.size) {t el : TypeId} {s : Nat} (hu : T.und t = some (.slice el)) (hse : T.size el = some (s + 1)) (hte : ok el = true) {a : Addr} {len cap : Nat} (hlc : len ≤ cap) (hcm : cap ≤ maxLen) {elems rest : List (DataW H × List MemPlace)}
    (he : (List.range len).mapM (fun i => (w.cells? 0 (a.add (i * P.cellsOf el)) (P.cellsOf el)).bind (DataW.trod enc P w 0 (fun _ => true) held fuel el)) = some elems)
    (he' : (List.range (cap - len)).mapM (fun j => (w.cells? 0 (a.add ((len + j) * P.cellsOf el)) (P.cellsOf el)).bind (DataW.trod enc P w 0 (fun _ => true) held fuel el)) = some rest)
    {e : Env} {h : CH} (hR : R B0 w0 e h w) (hn : NoWr h) : Conv1 H T B0 w0 w t [.slice (some a) len cap] (.slice (elems.map (·.1)) (rest.map (·.1))) e h := by
  rw [size_cells hT hse] at he he'
  obtain ⟨k1, k2⟩ := mapM_get he
  obtain ⟨k3, k4⟩ := mapM_get he'
  have k1 : elems.length = len := by simpa using k1
  have hfree : ∀ (h : CH) (e : Env) r, NoWr h → ∀ c oc x, h.get c = some oc → wr oc = true → e c ≠ some (r, x) := fun h e r hn c oc x hc hw => by rw [hn c oc hc] at hw; cases hw
  have addz : ∀ (A : Addr), A.add 0 = A := fun A => rfl
  have hunk : cap < unk := by
    unfold maxLen at hcm
    unfold unk
    omega
  by_cases hl0 : len = 0
  · subst hl0
    have hdead := hR.adopt .dead a.block a.off 0 (hfree h e _ hn) trivial
    have hds : elems = [] := by simpa using k1
    subst hds
    refine ⟨_, _, [.slice (some ⟨h.n, 0, none⟩) 0 cap], hR.ext _, hdead, hn.push rfl, Gr.push _ _, ?_, .slice (ds := []) (l := fun _ => []) hu hse (Nat.zero_le _) hcm (fun i x hx => by simp at hx) (fun i x hx => by simp at hx)⟩
    by_cases hc0 : cap = 0
    · subst hc0
      exact .cons (.sliceE (upd_same _ _ _) (.inl rfl)) .nil
    · obtain ⟨y, _, h6⟩ := k4 0 0 (by rw [List.getElem?_eq_getElem (by simp; omega)]; simp)
      obtain ⟨cl, h7, _⟩ := Option.bind_eq_some_iff.1 h6
      obtain ⟨h8, h9⟩ := cells_some h7
      have h10 := h9 0 (by omega)
      rw [List.getElem?_eq_getElem (by omega)] at h10
      simp only [Nat.zero_add, Nat.zero_mul, addz] at h10
      obtain ⟨h11, _⟩ := cell_at h10
      have : a = ⟨a.block, a.off + 0, none⟩ := by cases a; simp_all
      rw [this]
      exact .cons (.slice (upd_same _ _ _) hunk) .nil
  · have hcell : ∀ i, i < len → ∃ cl y, w.cells? 0 (a.add (i * (s + 1))) (s + 1) = some cl ∧ elems[i]? = some y ∧ DataW.trod enc P w 0 (fun _ => true) held fuel el cl = some y := by
      intro i hi
      obtain ⟨y, h5, h6⟩ := k2 i i (by simp [hi])
      obtain ⟨cl, h7, h8⟩ := Option.bind_eq_some_iff.1 h6
      exact ⟨cl, y, h7, h5, h8⟩
    obtain ⟨cl0, y0, h5, _, _⟩ := hcell 0 (by omega)
    obtain ⟨h8, h9⟩ := cells_some h5
    have h10 := h9 0 (by omega)
    rw [List.getElem?_eq_getElem (by omega)] at h10
    simp only [Nat.zero_mul, addz] at h10
    obtain ⟨hsp, real, rt, fr, hreal, _⟩ := cell_at h10
    have hrd : ∀ i j v, i < len → j < s + 1 → w.cell? ((a.add (i * (s + 1))).add j) = some v → real[a.off + (i * (s + 1) + j)]? = some v := by
      intro i j v hi hj hv
      have e1 : (a.add (i * (s + 1))).add j = ⟨a.block, a.off + (i * (s + 1) + j), none⟩ := by
        cases a
        simp only at hsp
        subst hsp
        unfold Addr.add
        by_cases g1 : i * (s + 1) = 0 <;> by_cases g2 : j = 0 <;> simp [g1, g2, Nat.add_assoc]
      rw [e1] at hv
      obtain ⟨_, real', t', fr', g1, g2⟩ := cell_at hv
      simp only at g1
      rw [hreal] at g1
      cases g1
      exact g2
    obtain ⟨e1, h1, ccs, b1, b2, b3, b4, b5, b6⟩ := convs (H := H) (fun _ : Nat => el) (fun i => (w.cells? 0 (a.add (i * (s + 1))) (s + 1)).getD []) (fun i => (elems.map (·.1)).getD i .nil) (List.range len) (fun i hi e h hR hn => by
      obtain ⟨cl, y, g1, g2, g3⟩ := hcell i (by simpa using hi)
      rw [g1]
      have : (elems.map (·.1)).getD i .nil = y.1 := by simp [List.getD_eq_getElem?_getD, g2]
      rw [this]
      exact ih el cl y.1 y.2 hte g3 e h hR hn) e h hR hn
    have b5 : ccs.length = len := by simpa using b5
    have hlen : ∀ c, c ∈ ccs → c.length = s + 1 := by
      intro c hc
      obtain ⟨i, hi⟩ := List.mem_iff_getElem?.1 hc
      have hil : i < len := by have := (List.getElem?_eq_some_iff.1 hi).1; omega
      obtain ⟨c', g1, g2, _⟩ := b6 i i (by simp [hil])
      rw [hi] at g1
      cases g1
      obtain ⟨cl, y, g4, _, _⟩ := hcell i hil
      rw [g4] at g2
      rw [g2.length]
      exact (cells_some g4).1
    obtain ⟨f1, f2, f3⟩ := flat_row (s := s + 1) (Nat.succ_pos s) ccs hlen
    have hread : ∀ k v, ccs.flatten[k]? = some v → ∃ v', real[a.off + k]? = some v' ∧ VR e1 v v' := by
      intro k v hv
      obtain ⟨c, g1, g2⟩ := f3 k v hv
      have hil : k / (s + 1) < len := by have := (List.getElem?_eq_some_iff.1 g1).1; omega
      obtain ⟨c', g3, g4, _⟩ := b6 (k / (s + 1)) (k / (s + 1)) (by simp [hil])
      rw [g1] at g3
      cases g3
      obtain ⟨cl, y, g5, _, _⟩ := hcell (k / (s + 1)) hil
      rw [g5] at g4
      obtain ⟨v', g6, g7⟩ := g4.get _ _ g2
      have g8 := (cells_some g5).2 (k % (s + 1)) (Nat.mod_lt _ (Nat.succ_pos s))
      simp only [Option.getD_some] at g6
      rw [g6] at g8
      have := hrd _ _ _ hil (Nat.mod_lt _ (Nat.succ_pos s)) g8
      rw [Nat.div_add_mod' k (s + 1)] at this
      exact ⟨v', this, g7⟩
    have hsz : a.off + ccs.flatten.length ≤ real.size := by
      rcases Nat.eq_zero_or_pos ccs.flatten.length with g | g
      · rw [f1, b5] at g
        have : len * (s + 1) = 0 := g
        rcases Nat.mul_eq_zero.1 this with g | g <;> omega
      · obtain ⟨v', g1, _⟩ := hread (ccs.flatten.length - 1) _ (List.getElem?_eq_getElem (by omega))
        have := (Array.getElem?_eq_some_iff.1 g1).1
        omega
    have hlt : a.block < B0 := by
      rw [hwb]
      exact (Array.getElem?_eq_some_iff.1 hreal).1
    have hext := b2.ext (a.block, a.off, real.size)
    have hadopt := b2.adopt (.cells ccs.flatten true true) a.block a.off real.size (hfree h1 e1 _ b3) ⟨a.block, a.off, real.size, real, rt, fr, upd_same _ _ _, hreal, rfl, hsz, fun i v hv => let ⟨v', q1, q2⟩ := hread i v hv; ⟨v', q1, q2.mono hext⟩, fun _ => hlt, ⟨fun hh => (by simp at hh), fun hh => (by simp at hh)⟩⟩
    refine ⟨_, _, [.slice (some ⟨h1.n, 0, none⟩) len cap], b1.trans hext, hadopt, b3.push rfl, b4.trans (Gr.push _ _), ?_, ?_⟩
    · have : a = ⟨a.block, a.off + 0, none⟩ := by cases a; simp_all
      rw [this]
      exact .cons (.slice (upd_same _ _ _) hunk) .nil
    · have hlen' : (elems.map (·.1)).length = len := by simp [k1]
      have : Has T (h1.push (.cells ccs.flatten true true)) t [.slice (some ⟨h1.n, 0, none⟩) (elems.map (·.1)).length cap] (.slice (elems.map (·.1)) (rest.map (·.1))) := by
        refine .slice (l := fun i => ccs.getD i []) hu hse (by omega) hcm (fun i x hx => ?_) (fun i x hx => ?_)
        · have hil : i < len := by have := (List.getElem?_eq_some_iff.1 hx).1; omega
          refine ⟨ccs.flatten, true, true, by rw [CH.get_push, if_pos rfl], ?_⟩
          have hg : ccs[i]? = some (ccs.getD i []) := by rw [List.getD_eq_getElem?_getD, List.getElem?_eq_getElem (by omega)]; rfl
          rw [Nat.zero_add, lsub_of, f2 i _ hg]
          rw [f1, b5]
          have := Nat.mul_le_mul_right (s + 1) (show i + 1 ≤ len from hil)
          rw [Nat.succ_mul] at this
          exact this
        · have hil : i < len := by have := (List.getElem?_eq_some_iff.1 hx).1; omega
          obtain ⟨c, g1, _, g3⟩ := b6 i i (by simp [hil])
          have e1 : ccs.getD i [] = c := by rw [List.getD_eq_getElem?_getD, g1]; rfl
          have e2 : (elems.map (·.1)).getD i .nil = x := by rw [List.getD_eq_getElem?_getD, hx]; rfl
          rw [e1]
          rw [e2] at g3
          exact g3.gr b2.hdom (Gr.push _ _)
      rw [hlen'] at this
      exact this

theorem conv_structG {ok : TypeId → Bool} {fuel : Nat} (ih : ∀ (t : TypeId) (cs : List Value) (d : DataW H) (ps : List MemPlace), ok t = true → DataW.trod enc P w 0 (fun _ => true) held fuel t cs = some (d, ps) → ∀ e h, R B0 w0 e h w → NoWr h → Conv1 H T B0 w0 w t cs d e h)
    (hT : TabOk P T) {t : TypeId} {fs : Array Field} {s : Nat} (hu : T.und t = some (.struct fs)) (hs : T.size t = some s) (hok : rowsOk T ok fs.toList 0 s = true) {cs : List Value} (hlen : cs.length = s) {xs : List (DataW H × List MemPlace)}
    (hm : fs.toList.mapM (fun f => DataW.trod enc P w 0 (fun _ => true) held fuel f.type ((cs.drop f.offset).take (P.cellsOf f.type))) = some xs)
    {e : Env} {h : CH} (hR : R B0 w0 e h w) (hn : NoWr h) : Conv1 H T B0 w0 w t cs (.agg (xs.map (·.1))) e h := by
  obtain ⟨k1, k2⟩ := mapM_get hm
  obtain ⟨e1, h1, ccs, b1, b2, b3, b4, b5, b6⟩ := convs (H := H) (fun i : Nat => (fs.toList.map (·.type)).getD i 0) (fun i => (fs.toList.map (fun f => (cs.drop f.offset).take (P.cellsOf f.type))).getD i []) (fun i => (xs.map (·.1)).getD i .nil) (List.range fs.toList.length) (fun i hi e h hR hn => by
    have hi : i < fs.toList.length := by simpa using hi
    have hf := List.getElem?_eq_getElem hi
    obtain ⟨y, g1, g2⟩ := k2 i _ hf
    obtain ⟨sz, g3, g4⟩ := rows_at hok _ (List.getElem_mem hi)
    have e1 : (fs.toList.map (·.type)).getD i 0 = fs.toList[i].type := by simp [List.getD_eq_getElem?_getD, List.getElem?_map, hf]
    have e2 : (fs.toList.map (fun f => (cs.drop f.offset).take (P.cellsOf f.type))).getD i [] = (cs.drop fs.toList[i].offset).take (P.cellsOf fs.toList[i].type) := by rw [List.getD_eq_getElem?_getD, List.getElem?_map, hf]; rfl
    have e3 : (xs.map (·.1)).getD i .nil = y.1 := by rw [List.getD_eq_getElem?_getD, List.getElem?_map, g1]; rfl
    rw [e1, e2, e3]
    exact ih _ _ y.1 y.2 g4 g2 e h hR hn) e h hR hn
  have b5 : ccs.length = fs.toList.length := by simpa using b5
  obtain ⟨q1, q2⟩ := hasL_of (H := H) (T := T) (e' := e1) (h' := h1) fs.toList 0 s cs ccs (xs.map (·.1)) hok hlen b5 (by simpa using k1) (fun i f x hf hx => by
    have hil : i < fs.toList.length := (List.getElem?_eq_some_iff.1 hf).1
    obtain ⟨c, g1, g2, g3⟩ := b6 i i (by rw [List.getElem?_eq_getElem (by simpa using hil)]; simp)
    obtain ⟨sz, g4, g5⟩ := rows_at hok f (List.mem_of_getElem? hf)
    have e1 : (fs.toList.map (·.type)).getD i 0 = f.type := by rw [List.getD_eq_getElem?_getD, List.getElem?_map, hf]; rfl
    have e2 : (fs.toList.map (fun f => (cs.drop f.offset).take (P.cellsOf f.type))).getD i [] = (cs.drop f.offset).take (P.cellsOf f.type) := by rw [List.getD_eq_getElem?_getD, List.getElem?_map, hf]; rfl
    have e3 : (xs.map (·.1)).getD i .nil = x := by rw [List.getD_eq_getElem?_getD, hx]; rfl
    simp only [e1, e2, e3] at g2 g3
    rw [size_cells hT g4] at g2
    exact ⟨c, sz, g1, g4, g2, g3⟩)
  rw [List.drop_zero] at q1
  exact ⟨e1, h1, ccs.flatten, b1, b2, b3, b4, q1, .struct hu (by rw [q1.length, hlen]; exact hs) q2⟩

theorem convG {ok : TypeId → Bool} (hcl : ∀ t, ok t = true → tyOk1 T ok t = true) (hT : TabOk P T) (hwb : B0 = w.heap.size) : ∀ (fuel : Nat) (t : TypeId) (cs : List Value) (d : DataW H) (ps : List MemPlace), ok t = true → DataW.trod enc P w 0 (fun _ => true) held fuel t cs = some (d, ps) →
    ∀ e h, R B0 w0 e h w → NoWr h → Conv1 H T B0 w0 w t cs d e h := by
  intro fuel
  induction fuel with
  | zero => intro t cs d ps ht hd; simp [DataW.trod] at hd
  | succ fuel ih =>
  intro t cs d ps ht hd e h hR hn
  have ht := hcl t ht
  unfold tyOk1 at ht
  split at ht
  · rename_i hu hs
    have hu' := und_some hT hu
    unfold DataW.trod at hd
    rw [hu'] at hd
    simp only at hd
    split at hd <;> first | (cases hd; done) | (rename_i hh; cases hh; done) | skip
    rename_i b _
    cases hd
    exact ⟨e, h, [.bool b], Ext.refl e, hR, hn, Gr.refl h, .cons (.flat rfl) .nil, .bool hu⟩
  · rename_i k hu hs
    have hu' := und_some hT hu
    unfold DataW.trod at hd
    rw [hu'] at hd
    simp only at hd
    split at hd <;> first | (cases hd; done) | (rename_i hh; cases hh; done) | skip
    rename_i k2 k' m hh
    cases hh
    split at hd
    case isFalse => cases hd
    rename_i hwf
    obtain ⟨rfl, hwf⟩ := hwf
    cases hd
    exact ⟨e, h, [.int k' m], Ext.refl e, hR, hn, Gr.refl h, .cons (.flat rfl) .nil, .int hu hwf⟩
  · rename_i hu hs
    have hu' := und_some hT hu
    unfold DataW.trod at hd
    rw [hu'] at hd
    simp only at hd
    split at hd <;> first | (cases hd; done) | (rename_i hh; cases hh; done) | skip
    rename_i b _
    split at hd
    case isFalse => cases hd
    rename_i hsz
    cases hd
    exact ⟨e, h, [.string b], Ext.refl e, hR, hn, Gr.refl h, .cons (.flat rfl) .nil, .str hu hsz⟩
  · rename_i el hu hs
    have hu' := und_some hT hu
    simp only [Bool.and_eq_true] at ht
    obtain ⟨hse, hte⟩ := ht
    obtain ⟨s, hse⟩ : ∃ s, T.size el = some (s + 1) := by
      split at hse
      · rename_i s hs'; exact ⟨s, hs'⟩
      · cases hse
    unfold DataW.trod at hd
    rw [hu'] at hd
    simp only at hd
    split at hd <;> first | (cases hd; done) | (rename_i hh; cases hh; done) | skip
    · cases hd
      exact ⟨e, h, [.slice none 0 0], Ext.refl e, hR, hn, Gr.refl h, .cons (.flat rfl) .nil, .nil hu⟩
    · rename_i el' a len cap hh
      cases hh
      split at hd
      · rename_i hb
        obtain ⟨elems, he1, hd⟩ := Option.bind_eq_some_iff.1 hd
        obtain ⟨rest, he2, hd⟩ := Option.map_eq_some_iff.1 hd
        cases hd
        exact conv_sliceG (ih := ih) hT hwb hu hse hte hb.2.1 hb.2.2 he1 (by simpa using he2) hR hn
      · cases hd
  · rename_i fs s hu hs
    have hu' := und_some hT hu
    unfold DataW.trod at hd
    rw [hu'] at hd
    simp only at hd
    split at hd <;> first | (cases hd; done) | (rename_i hh; cases hh; done) | skip
    · rename_i hlen
      rw [size_cells hT hs] at hlen
      obtain ⟨xs, h1, h2⟩ := Option.map_eq_some_iff.1 hd
      cases h2
      exact conv_structG hT (ih := ih) hu hs ht hlen h1 hR hn
  · cases ht
theorem conv_valG {ok : TypeId → Bool} (hcl : ∀ t, ok t = true → tyOk1 T ok t = true) (hT : TabOk P T) (hwb : B0 = w.heap.size) {t : TypeId} {v : Value} {d : DataW H} {p : List MemPlace} (ht : ok t = true) (hd : DataW.Trod enc P w 0 (fun _ => true) held t v d p) (e : Env) (h : CH) (hR : R B0 w0 e h w) (hn : NoWr h) :
    ∃ e' h' cv, Ext e e' ∧ R B0 w0 e' h' w ∧ NoWr h' ∧ Gr h h' ∧ VR e' cv v ∧ Has T h' t cv.cells.toList d ∧ ((∀ a, v ≠ .agg a) → ∀ a, cv ≠ .agg a) := by
  obtain ⟨fuel, hd⟩ := hd
  obtain ⟨e', h', ccs, h1, h2, h3, h4, h5, h6⟩ := convG hcl hT hwb fuel t _ d p ht hd e h hR hn
  by_cases hv : ∃ a, v = .agg a
  · obtain ⟨a, rfl⟩ := hv
    exact ⟨e', h', .agg ccs.toArray, h1, h2, h3, h4, .agg (by simpa [Value.cells] using h5), by simpa [Value.cells] using h6, fun hh => absurd rfl (hh a)⟩
  · have hv : ∀ a, v ≠ .agg a := fun a ha => hv ⟨a, ha⟩
    rw [cells_one hv] at h5
    cases h5 with
    | cons hc ht' =>
      cases ht'
      rename_i c
      have hca : ∀ a, c ≠ .agg a := fun a ha => by
        subst ha
        obtain ⟨a', h7, _⟩ := hc.aggI
        exact hv a' h7
      exact ⟨e', h', c, h1, h2, h3, h4, hc, by rw [cells_one hca]; exact h6, fun _ => hca⟩

theorem conv_allG {ok : TypeId → Bool} (hcl : ∀ t, ok t = true → tyOk1 T ok t = true) (hT : TabOk P T) (hwb : B0 = w.heap.size) : ∀ {ts : List TypeId} {vs : List Value} {ds : List (DataW H)} {ps : List MemPlace}, (∀ t ∈ ts, ok t = true) → DataW.TrodAll enc P w 0 (fun _ => true) held ts vs ds ps →
    ∀ (e : Env) (h : CH), R B0 w0 e h w → NoWr h → ∃ e' h' cvs, Ext e e' ∧ R B0 w0 e' h' w ∧ NoWr h' ∧ Gr h h' ∧ VL e' cvs vs ∧ HasAll T h' ts cvs vs ds
  | [], [], [], ps, _, _, e, h, hR, hn => ⟨e, h, [], Ext.refl e, hR, hn, Gr.refl h, .nil, trivial⟩
  | t :: ts, v :: vs, d :: ds, ps, hts, hd, e, h, hR, hn => by
    obtain ⟨p, q, h1, h2, _⟩ := hd
    obtain ⟨e1, g1, cv, a1, a2, a3, a4, a5, a6, a7⟩ := conv_valG hcl hT hwb (hts t (List.mem_cons_self ..)) h1 e h hR hn
    obtain ⟨e2, g2, cvs, b1, b2, b3, b4, b5, b6⟩ := conv_allG hcl hT hwb (fun t ht => hts t (List.mem_cons_of_mem _ ht)) h2 e1 g1 a2 a3
    exact ⟨e2, g2, cv :: cvs, a1.trans b1, b2, b3, a4.trans b4, .cons (a5.mono b1) b5, ⟨⟨a6.gr a2.hdom b4, a7⟩, b6⟩⟩
  | [], [], _ :: _, _, _, hd, _, _, _, _ => hd.elim
  | [], _ :: _, _, _, _, hd, _, _, _, _ => by cases hd
  | _ :: _, [], _, _, _, hd, _, _, _, _ => by cases hd
  | _ :: _, _ :: _, [], _, _, hd, _, _, _, _ => by cases hd

/-- A law, called on readable arguments. -/
theorem law_callsG {ok : TypeId → Bool} (hcl : ∀ t, ok t = true → tyOk1 T ok t = true) (hT : TabOk P T) {f : FuncId} {ts : List TypeId} (hts : ∀ t ∈ ts, ok t = true) {args : Array Value} {ds : List (DataW H)} {ps : List MemPlace} (hd : DataW.TrodAll enc P w 0 (fun _ => true) held ts args.toList ds ps)
    (hl : ∀ (h : CH) (cvs : List Value), HasAll T h ts cvs args.toList ds → CalF ⟨P, T, w.heap.size, w, hT⟩ f cvs h fun r _ => r = .ret (.bool true)) :
    Calls P f args w fun e w' => e = .returned (.bool true) ∧ Below w.heap.size w w' := by
  have hR : R w.heap.size w (fun _ => none) { n := 0, t := .nil } w :=
    ⟨⟨rfl, rfl, rfl, Nat.le_refl _, fun _ _ => rfl⟩, Nat.le_refl _, fun _ _ => rfl, fun _ _ => rfl, (fun b o hb => by cases hb), (fun b b' o o' r x x' hb => by cases hb)⟩
  obtain ⟨e', h', cvs, h1, h2, h3, h4, h5, h6⟩ := conv_allG hcl hT rfl hts hd _ _ hR (fun b o hb => by cases hb)
  exact CalF.calls (X := ⟨P, T, w.heap.size, w, hT⟩) (hl h' cvs h6) h2 h5

end
end Go.Cx

/- Arguments that are break rules. -/
set_option linter.unusedSimpArgs false
set_option linter.unusedVariables false
namespace Go.Cx
theorem rules_of {H : Type} {T : Tab} {h : CH} {k : PTys} {str rule ints subs strs rules br : TypeId} (ht : BreakTys T str k rule ints subs strs rules br) {cv : Value} {d : DataW H} (hh : Has T h br cv.cells.toList d) :
    ∃ r, BreakV T str k rule h cv r ∧ (∀ c s, cv = .agg #[c, s] → CapOk c 1) ∧ ∀ s, s ∈ r.classes → s.data.toList.length < 9223372036854775808 := by
  obtain ⟨c, s, r, hcs, hb, hcap, hlen⟩ := break_of ht hh
  have : cv = .agg #[c, s] := by
    cases cv
    case agg a' =>
      simp only [Value.cells] at hcs
      congr 1
      exact Array.toList_inj.1 hcs
    all_goals (simp [Value.cells] at hcs)
  subst this
  exact ⟨r, hb, fun c2 s2 he => by cases he; exact hcap, hlen⟩
end Go.Cx
