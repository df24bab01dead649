/- The canonical executor: rules for writing, ranges over functions, states of automata. Conditions: none. -/
import Derived.Test.YtcenphnkcifbhaaDoorCxD
import Derived.ProofKit
import Derived.OpenShut
/- The canonical executor: rules for append, make, and range over a function. -/
set_option linter.unusedSimpArgs false
set_option linter.unusedVariables false
namespace Go.Cx

/-! ### Own slices that grow -/
/-- A slice of single cells in a block of its own (b), or the nil slice. -/
def Own (h : CH) (v : Value) (b : Nat) (l : List Value) : Prop :=
  (l = [] ∧ v = .slice none 0 0) ∨ ∃ c, v = .slice (some ⟨b, 0, none⟩) l.length c ∧ h.get b = some (.cells l false false) ∧ (c = l.length ∨ c = unk + 1)
/-- Of what was there nothing but block b has changed. -/
structure Chg (b : Nat) (h h' : CH) : Prop where
  n : h.n ≤ h'.n
  get : ∀ c, c < h.n → c ≠ b → h'.get c = h.get c
theorem Gr.chg {h0 h h' : CH} {b : Nat} (g : Gr h0 h) (hb : h0.n ≤ b) (u : Chg b h h') : Gr h0 h' :=
  ⟨Nat.le_trans g.n u.n, fun c hc => (u.get c (Nat.lt_of_lt_of_le hc g.n) (by omega)).trans (g.get c hc)⟩
theorem Own.gr {h h' : CH} {v : Value} {b : Nat} {l : List Value} (ho : Own h v b l) (hw : h.wf) (g : Gr h h') : Own h' v b l := by
  rcases ho with ho | ⟨c, h1, h2, h3⟩
  · exact .inl ho
  · exact .inr ⟨c, h1, g.at hw h2, h3⟩
theorem Own.sl {T : Tab} {t : TypeId} {d : TypeDesc} {h : CH} {v : Value} {b : Nat} {l : List Value} (ho : Own h v b l) (hs : T.size t = some 1) (hu : T.und t = some d) (ha : isAggD d = false) (hl : l.length < 9223372036854775808) : Sl T t h v l := by
  rcases ho with ⟨rfl, rfl⟩ | ⟨c, rfl, h2, h3⟩
  · exact ⟨hl, none, 0, rfl, fun i x hx => by simp at hx⟩
  · exact Sl.one h2 hs hu ha hl rfl

theorem append_own {T : Tab} {t e : TypeId} {ty2 : TypeId} {i : TypeInfo} {z : List Value} {h : CH} {v x : Value} {b b1 : Nat} {l : List Value} {c1 : Nat} (hw : h.wf) (ho : Own h v b l) (hu : T.und t = some (.slice e)) (hi : T.info e = some i) (hsz : i.size = 1) (hby : 1 ≤ i.bytes) (hbb : i.bytes ≤ 64) (hz : zeroCellsOf T e = some z) (hzl : z.length = 1)
    (hu2 : isSliceD (T.und ty2) = true) (hx1 : isOne x = true) (hb1 : h.get b1 = some (.cells [x] false false)) (hll : l.length ≤ 1000000) :
    ∃ v' h' b', cappend T h [t, ty2] v (.slice (some ⟨b1, 0, none⟩) 1 c1) = .val v' h' ∧ h'.wf ∧ Chg b h h' ∧ h.n ≤ b' ∧ Own h' v' b' (l ++ [x]) := by
  have hsrc : csrc T h 1 e (some ty2) (.slice (some ⟨b1, 0, none⟩) 1 c1) = some (1, [x]) := by
    unfold csrc
    simp only [Option.bind_some, hu2, cond_true]
    rw [row_of hb1]
    rfl
  have hguard : (Nat.ble 1 1 && Nat.ble 1 i.bytes && Nat.beq z.length 1 && Nat.ble ((4 * (l.length + 1) + 4000) * i.bytes) 281474976710656 && [x].all isOne) = true := by
    have h1 : (4 * (l.length + 1) + 4000) * i.bytes ≤ 281474976710656 := by
      have : (4 * (l.length + 1) + 4000) * i.bytes ≤ 4004004 * 64 := Nat.mul_le_mul (by omega) hbb
      omega
    simp [hzl, hx1, Nat.ble_eq, hby, h1]
  rcases ho with ⟨rfl, rfl⟩ | ⟨c, rfl, h2, h3⟩
  · refine ⟨.slice (some ⟨h.n, 0, none⟩) (0 + 1) (unk + 1), h.push (.cells ([] ++ [x]) false false), h.n, ?_, CH.wf_push hw _, ⟨Nat.le_succ _, fun c hc _ => by rw [CH.get_push, if_neg (by omega)]⟩, Nat.le_refl _, .inr ⟨_, rfl, by rw [CH.get_push, if_pos rfl], .inr rfl⟩⟩
    unfold cappend
    simp only [COut.of, List.head?_cons, hu, hi, hz, hsz, List.tail_cons, hsrc, cappend2]
    have hguard := hguard
    simp only [List.length_nil] at hguard
    rw [hguard]
    rfl
  · rcases h3 with rfl | rfl
    · refine ⟨.slice (some ⟨h.n, 0, none⟩) (l.length + 1) (unk + 1), h.push (.cells (l ++ [x]) false false), h.n, ?_, CH.wf_push hw _, ⟨Nat.le_succ _, fun c hc _ => by rw [CH.get_push, if_neg (by omega)]⟩, Nat.le_refl _, .inr ⟨_, by simp, by rw [CH.get_push, if_pos rfl], .inr rfl⟩⟩
      unfold cappend
      simp only [COut.of, List.head?_cons, hu, hi, hz, hsz, List.tail_cons, hsrc, cappend2]
      rw [hguard, (nble_ff unk l.length).2 (by unfold unk; omega), (nble_ff _ _).2 (by omega)]
      simp only [cond_true, cond_false, appNew]
      rw [row_of h2]
      simp only [Option.bind_some, COut.of]
      rw [Nat.mul_one, lsub_of l 0 l.length (by omega)]
      simp
    · refine ⟨.slice (some ⟨h.n, 0, none⟩) (l.length + 1) (unk + 1), (h.put b .dead).push (.cells (l ++ [x]) false false), h.n, ?_, CH.wf_push (CH.wf_put hw h2) _, ⟨Nat.le_succ _, fun c hc hne => ?_⟩, Nat.le_refl _, .inr ⟨_, by simp, ?_, .inr rfl⟩⟩
      · unfold cappend
        simp only [COut.of, List.head?_cons, hu, hi, hz, hsz, List.tail_cons, hsrc, cappend2]
        rw [hguard, (nble unk (unk + 1)).2 (by omega), Nat.beq_refl]
        simp only [cond_true, appU, wrow, h2, COut.of]
        rw [Nat.mul_one, lsub_of l 0 l.length (by omega)]
        simp
      · rw [CH.get_push, if_neg (by rw [CH.n_put]; omega), CH.get_put, if_neg hne]
      · rw [CH.get_push, if_pos (by rw [CH.n_put])]

section
variable {X : Cxt} {rnd : Bool} {ops : List Oper} {o : Oper} {l : List Oper} {n : Nat} {tm : PT Value} {ds : List Deferred} {rc : Option FrameMode} {h : CH} {Q : KP} {d : Nat}
theorem cop_append {c : Call} {xo yo : Operand} {t t2 : TypeId} {v u : Value} (ho : o.op = .call c) (hc : c.callee = .builtin .append) (ha : c.args.toList = [xo, yo]) (ht : c.argTypes.toList = [t, t2]) (hx : ev tm xo = some v) (hy : ev tm yo = some u) : cop X.T tm h o = cappend X.T h [t, t2] v u := by
  unfold cop
  simp only [ho, ccallO, hc, ccallB, ha, COut.of, hx, hy, ht]
/-- One more element. -/
theorem pops.append1 {c : Call} {xo yo : Operand} {t t2 e : TypeId} {v x : Value} {b b1 c1 : Nat} {us : List Value} {i : TypeInfo} {z : List Value} (hw : cwant ops tm o = some true) (ho : o.op = .call c) (hc : c.callee = .builtin .append) (ha : c.args.toList = [xo, yo]) (ht : c.argTypes.toList = [t, t2]) (hx : ev tm xo = some v) (hy : ev tm yo = some (.slice (some ⟨b1, 0, none⟩) 1 c1))
    (hd : o.dst = some d) (hl : Nat.ble (d + 1) n = true) (hu : X.T.und t = some (.slice e)) (hi : X.T.info e = some i) (hsz : i.size = 1) (hby : Nat.ble 1 i.bytes = true) (hbb : Nat.ble i.bytes 64 = true) (hz : zeroCellsOf X.T e = some z) (hzl : z.length = 1) (hu2 : isSliceD (X.T.und t2) = true)
    (hwf : h.wf) (hown : Own h v b us) (hx1 : isOne x = true) (hb1 : h.get b1 = some (.cells [x] false false)) (hll : us.length ≤ 1000000)
    (hn : ∀ v' b' h', h'.wf → Chg b h h' → h.n ≤ b' → Own h' v' b' (us ++ [x]) → pops X rnd ops l ⟨n, tm.set v' d, ds, rc⟩ h' Q) : pops X rnd ops (o :: l) ⟨n, tm, ds, rc⟩ h Q := by
  obtain ⟨v', h', b', h1, h2, h3, h4, h5⟩ := append_own (T := X.T) hwf hown hu hi hsz ((nble _ _).1 hby) ((nble _ _).1 hbb) hz hzl hu2 hx1 hb1 hll (t := t) (ty2 := t2) (c1 := c1)
  exact pops.val hw ((cop_append ho hc ha ht hx hy).trans h1) hd hl (hn v' b' h' h2 h3 h4 h5)
/-- A new row of zeros. -/
theorem pops.makeSlice {t e : TypeId} {lo co : Operand} {k k' : IntKind} {m : Nat} {i : TypeInfo} {z : Value} (hw : cwant ops tm o = some true) (ho : o.op = .makeSlice t lo co) (hlo : ev tm lo = some (.int k (m : Int))) (hco : ev tm co = some (.int k' (m : Int))) (hd : o.dst = some d) (hl : Nat.ble (d + 1) n = true)
    (hu : X.T.und t = some (.slice e)) (hi : X.T.info e = some i) (hsz : i.size = 1) (hbb : Nat.ble i.bytes 64 = true) (hz : zeroCellsOf X.T e = some [z]) (hm : m ≤ 1000000) (hwf : h.wf)
    (hn : ∀ b h', h.n ≤ b → h'.wf → Gr h h' → h'.get b = some (.cells (List.replicate m z) false false) → pops X rnd ops l ⟨n, tm.set (.slice (some ⟨b, 0, none⟩) m m) d, ds, rc⟩ h' Q) : pops X rnd ops (o :: l) ⟨n, tm, ds, rc⟩ h Q := by
  have hrep : ∀ m, repeatL [z] m = List.replicate m z := by
    intro m
    induction m with
    | zero => rfl
    | succ m ih => show [z] ++ repeatL [z] m = _; rw [ih]; rfl
  refine pops.val hw (h' := h.push (.cells (List.replicate m z) false false)) ?_ hd hl (hn h.n _ (Nat.le_refl _) (CH.wf_push hwf _) (Gr.push _ _) (by rw [CH.get_push, if_pos rfl]))
  have hb := (nble _ _).1 hbb
  have hguard : (Nat.beq [z].length i.size && Nat.ble (i.bytes * m) 281474976710656 && Nat.ble m 1000000 && Nat.ble m m && Nat.ble 1 i.size) = true := by
    have h1 : i.bytes * m ≤ 281474976710656 := by
      have : i.bytes * m ≤ 64 * 1000000 := Nat.mul_le_mul hb hm
      omega
    simp [hsz, Nat.ble_eq, h1, hm]
  unfold cop
  simp only [ho, COut.of, hlo, hco, cmakeSlice, hu, natOf_cast, hi, hz, hguard, cond_true, hnew, hrep]
end

/-! ### Range over a function -/
/-- How a round ends. -/
def rndP (l : Nat) (Q : Value → CH → Prop) : KP := fun ex a h =>
  ex = .normal ∧ ∃ r, h.get l = some (.loop r) ∧ Q (.bool true) (h.put l (.loop { r with state := .ready, pending := none }))

theorem Rnd.intro {X : Cxt} {l f n : Nat} {tm : PT Value} {assign body : Code} {h : CH} {Q : Value → CH → Prop}
    (hc : Runs X f true assign { n, tm, defers := [], rc := none } h (fun ex a h => ex = .normal ∧ ∃ r, h.get l = some (.loop r) ∧ r.state = .ready ∧ Runs X f true body a (h.put l (.loop { r with state := .busy })) (rndP l Q))) : Rnd X l f n tm assign body h Q := by
  intro e w hR l' x tmps' hl ht c cs
  let b : Frame := { (default : Frame) with fn := f, kind := .normal, roundOf := some l' }
  have hb0 : Frame.round l' f tmps' assign body .normal = b.atR { tmps := tmps', defers := [] } [.code assign, .beginRound, .code body] := by
    simp [Frame.round, Frame.atR, b]
  rw [hb0]
  obtain ⟨ex, a, h1, e1, w1, ra, cs1, g1, g2, g3, g4, g5, g6, g7⟩ := hc e w { tmps := tmps', defers := [] } b [.beginRound, .code body] (c :: cs) (c :: cs) hR ⟨ht, .nil⟩ rfl ⟨rfl, (fun hh => by cases hh), fun hh => by cases hh⟩
  obtain ⟨rfl, r, hg, hrd, hbody⟩ := tt_iff.1 g1
  have hrc : a.rc = none := by
    cases har : a.rc with
    | none => rfl
    | some m => rw [har] at g6; cases g6
  rw [hrc] at g5
  have g5 : cs1 = c :: cs := g5
  subst g5
  obtain ⟨r', q, he, hw, hB, hLR⟩ := g3.obj _ _ hg
  have hl1 := g2 _ _ hl
  rw [hl1] at he
  cases he
  have hR2 : R X.B0 X.w0 e1 (h1.put l (.loop { r with state := .busy })) { w1 with heap := w1.heap.setIfInBounds l' (.loop { q with state := .busy }) } :=
    g3.update hg rfl hl1 (by simp) (fun i hi => by simp only [Array.getElem?_setIfInBounds]; rw [if_neg (by omega)]) rfl rfl rfl
      ⟨l', { q with state := .busy }, hl1, setObj_at hw, hB, ⟨rfl, hLR.pending, hLR.fn, hLR.params, hLR.assign, hLR.body, hLR.tmps⟩⟩
  have hbegin : (Instr.beginRound l').run X.P w1 = .ok () { w1 with heap := w1.heap.setIfInBounds l' (.loop { q with state := .busy }) } := by
    have j1 := getObj_run (P := X.P) hw (by simp)
    have j2 := setObj_run (P := X.P) (q' := .loop { q with state := .busy }) hw (by simp)
    have j3 : q.state = .ready := by rw [hLR.state]; exact hrd
    simp [Instr.beginRound, Instr.getLoop, j1, j2, j3]
  have s1 := stepR_beginRound (P := X.P) (b := b) (a := ra) (k := [.code body]) (cs := c :: cs) rfl hbegin
  obtain ⟨ex2, a2, h2, e2, w2, ra2, cs2, k1, k2, k3, k4, k5, k6, k7⟩ := hbody e1 _ ra b [] (c :: cs) (c :: cs) hR2 g4 (by rw [hrc]; rfl) ⟨rfl, (fun hh => by cases hh), fun hh => by rw [hrc] at hh; cases hh⟩
  have hrc2 : a2.rc = none := by
    rw [hrc] at k6
    cases har : a2.rc with
    | none => rfl
    | some m => rw [har] at k6; cases k6
  rw [hrc2] at k5
  have k5 : cs2 = c :: cs := k5
  subst k5
  have hl2 := k2 _ _ hl1
  have pre : Steps X.P (lone (b.atR { tmps := tmps', defers := [] } [.code assign, .beginRound, .code body]) (c :: cs) w) (lone (b.atR ra [.code body]) (c :: cs) { w1 with heap := w1.heap.setIfInBounds l' (.loop { q with state := .busy }) }) := Steps.trans g7 (.one s1)
  obtain ⟨rfl, r2, hg2, hQ⟩ := tt_iff.1 k1
  have k1 : cend l none h2 (fun r _ h => match r with
    | .ret v => tt (Q v h)
    | _ => false) = true := by
    unfold cend
    rw [hg2]
    exact tt_iff.2 hQ
  obtain ⟨h3, w3, j1, j2, j3⟩ := cend_sound (P := X.P) k1 k3 hl2
  exact ⟨_, h3, e2, w3, _, tt_iff.1 j1, g2.trans k2, j2, .flat rfl, pre.trans (Steps.trans k7 (.one (stepR_round_end rfl rfl j3)))⟩

section
variable {X : Cxt} {fid : FuncId} {a : CAct} {h : CH} {Q : KP}
/-- A range over a function whose rounds come to an ordinary end. -/
theorem Runs.rangeFunc {f : Operand} {ps : Array Tmp} {assign body : Code} {gf : FuncId} {gfn : Func} {first cap : Array Value} (hf : ev a.tm f = some (.func (.func gf) first cap)) (hfn : X.T.fn gf = some gfn)
    (hc : CalF X gf (first.toList ++ [.func (.yield (h.n + 1)) #[] #[]] ++ cap.toList) ((h.push (.deferred true)).push (.loop { state := .ready, pending := none, fn := fid, tmps := (tmList a.tm a.n []).toArray, params := ps, assign, body, defers := h.n }))
      fun r h' => (∃ v, r = .ret v) ∧ ∃ r', h'.get (h.n + 1) = some (.loop r') ∧ r'.state ≠ .busy ∧ r'.pending = none ∧ Q .normal { a with defers := { target := .collected h.n, args := #[] } :: a.defers } (h'.put (h.n + 1) (.loop { r' with state := .exhausted }))) :
    Runs X fid false (.rangeFunc f ps assign body) a h Q := by
  refine Runs.of _ ?_
  refine ⟨rfl, ?_⟩
  rw [hf]
  simp only
  unfold crf
  simp only [ccallee, hfn]
  refine tt_iff.2 ?_
  refine hc.mono fun r h' hh => ?_
  obtain ⟨⟨v, rfl⟩, r', h1, h2, h3, h4⟩ := hh
  simp only
  unfold crfEnd
  rw [h1]
  simp only [decide_eq_false h2, cond_false, h3]
  rw [h3] at h4
  exact tt_iff.2 h4
theorem pleave.rd {fn : Func} {n d : Nat} {tm : PT Value} {v : Value} {Q : CRes → CH → Prop} (hd : h.get d = some (.deferred true)) (hv : cresults X.T fn tm (h.put d (.deferred false)) = some v) (hq : Q (.ret v) (h.put d (.deferred false))) : pleave X fn Q .ret ⟨n, tm, [{ target := .collected d, args := #[] }], none⟩ h := by
  unfold pleave
  simp only [kleave, cleave, cleaveD, hd, cleave0, hv]
  exact tt_iff.2 hq
end
section
variable {X : Cxt} {rnd : Bool} {ops : List Oper} {o : Oper} {l : List Oper} {n : Nat} {tm : PT Value} {ds : List Deferred} {rc : Option FrameMode} {h : CH} {Q : KP} {d : Nat}
/-- A call of the function of a range. -/
theorem pops.yield {c : Call} {x : Operand} {yl : Nat} {args : List Value} {r : Loop} (hw : cwant ops tm o = some true) (ho : o.op = .call c) (hc : c.callee = .value x) (hx : ev tm x = some (.func (.yield yl) #[] #[])) (ha : evs tm c.args.toList = some args) (hd : o.dst = some d) (hl : Nat.ble (d + 1) n = true)
    (hg : h.get yl = some (.loop r)) (hlen : args.length = r.params.toList.length)
    (hn : Rnd X yl r.fn r.tmps.toList.length (setArgs r.tmps.toList.length (argsTree r.tmps.toList 0 .nil) (r.params.toList.zip args)) r.assign r.body h fun v h' => pops X rnd ops l ⟨n, tm.set v d, ds, rc⟩ h' Q) : pops X rnd ops (o :: l) ⟨n, tm, ds, rc⟩ h Q := by
  constructor
  show p1 _ _ _ _ _ _ _
  unfold p1
  have hv : cop X.T tm h o = .call (.round yl r.fn r.tmps.toList.length (setArgs r.tmps.toList.length (argsTree r.tmps.toList 0 .nil) (r.params.toList.zip args)) r.assign r.body) := by
    unfold cop
    simp only [ho, ccallO, hc, hx, ha, COut.of, ccallee, hg]
    rw [(nbeq _ _).2 hlen]
    rfl
  simp only [hw, hv, pout]
  intro e w h1 l' x' tmps' h2 h3 c' cs
  obtain ⟨v, h', e', w', v', k1, k2⟩ := hn e w h1 l' x' tmps' h2 h3 c' cs
  refine ⟨v, h', e', w', v', ?_, k2⟩
  show kthenP _ _ _ _ _
  rw [hd, put_mk hl]
  exact .n k1.out
end
end Go.Cx

/- The canonical executor: writing in regions that draw their order; states of automata. -/
set_option linter.unusedSimpArgs false
set_option linter.unusedVariables false
namespace Go.Cx
section
variable {X : Cxt} {ops : List Oper} {ms : List OpM} {all : Nat} {Q : KP} {h : CH} {o : Oper} {L n M d : Nat} {tm : PT Value} {ds : List Deferred} {rc : Option FrameMode} {hd : List Held}
theorem pd1.valR (i : Nat) {v : Value} {h' : CH} (hlo : lget ops i = some o) (hr : readyE ops ms 0 L = [(i, o)]) (hw : cwant ops tm o = some true) (hv : cop X.T tm h o = .val v h') (hd' : o.dst = some d) (hl : Nat.ble (d + 1) n = true)
    (hk : ∃ held, Reck X.T (maskOf ms i) h' hd held ∧ PG X ops ms all M Q ops ms 0 ⟨Nat.lor L (2 ^ i), ⟨n, tm.set v d, ds, rc⟩, held⟩ h') : pd1 X ops ms all (pdg X ops ms all Q (M + 1)) ⟨L, ⟨n, tm, ds, rc⟩, hd⟩ h Q := by
  obtain ⟨held, h1, h2⟩ := hk
  exact pd1.val hr hw hd' hl hv h1 h2
theorem pd1.buildSlice (i : Nat) {t : TypeId} {len : Nat} {parts : Array (Nat × Operand)} {cs : List Value} (hlo : lget ops i = some o) (hr : readyE ops ms 0 L = [(i, o)]) (hw : cwant ops tm o = some true) (ho : o.op = .buildSlice t len parts) (hv : cbuildSlice X.T tm h t len parts.toList = hnew h (.cells cs false false) fun b => .slice (some ⟨b, 0, none⟩) len len) (hd' : o.dst = some d) (hl : Nat.ble (d + 1) n = true) (hwf : h.wf)
    (hk : ∀ b h', h.n ≤ b → h'.wf → Gr h h' → h'.get b = some (.cells cs false false) → ∃ held, Reck X.T (maskOf ms i) h' hd held ∧ PG X ops ms all M Q ops ms 0 ⟨Nat.lor L (2 ^ i), ⟨n, tm.set (.slice (some ⟨b, 0, none⟩) len len) d, ds, rc⟩, held⟩ h') : pd1 X ops ms all (pdg X ops ms all Q (M + 1)) ⟨L, ⟨n, tm, ds, rc⟩, hd⟩ h Q :=
  pd1.valR i (h' := h.push (.cells cs false false)) hlo hr hw (by unfold cop; simp only [ho, hv, hnew]) hd' hl (hk h.n _ (Nat.le_refl _) (CH.wf_push hwf _) (Gr.push _ _) (by rw [CH.get_push, if_pos rfl]))
theorem pd1.append1 (i : Nat) {c : Call} {xo yo : Operand} {t t2 e : TypeId} {v x : Value} {b b1 c1 : Nat} {us : List Value} {inf : TypeInfo} {z : List Value} (hlo : lget ops i = some o) (hr : readyE ops ms 0 L = [(i, o)]) (hw : cwant ops tm o = some true) (ho : o.op = .call c) (hc : c.callee = .builtin .append) (ha : c.args.toList = [xo, yo]) (ht : c.argTypes.toList = [t, t2]) (hx : ev tm xo = some v) (hy : ev tm yo = some (.slice (some ⟨b1, 0, none⟩) 1 c1))
    (hd' : o.dst = some d) (hl : Nat.ble (d + 1) n = true) (hu : X.T.und t = some (.slice e)) (hi : X.T.info e = some inf) (hsz : inf.size = 1) (hby : Nat.ble 1 inf.bytes = true) (hbb : Nat.ble inf.bytes 64 = true) (hz : zeroCellsOf X.T e = some z) (hzl : z.length = 1) (hu2 : isSliceD (X.T.und t2) = true)
    (hwf : h.wf) (hown : Own h v b us) (hx1 : isOne x = true) (hb1 : h.get b1 = some (.cells [x] false false)) (hll : us.length ≤ 1000000)
    (hk : ∀ v' b' h', h'.wf → Chg b h h' → h.n ≤ b' → Own h' v' b' (us ++ [x]) → ∃ held, Reck X.T (maskOf ms i) h' hd held ∧ PG X ops ms all M Q ops ms 0 ⟨Nat.lor L (2 ^ i), ⟨n, tm.set v' d, ds, rc⟩, held⟩ h') : pd1 X ops ms all (pdg X ops ms all Q (M + 1)) ⟨L, ⟨n, tm, ds, rc⟩, hd⟩ h Q := by
  obtain ⟨v', h', b', h1, h2, h3, h4, h5⟩ := append_own (T := X.T) hwf hown hu hi hsz ((nble _ _).1 hby) ((nble _ _).1 hbb) hz hzl hu2 hx1 hb1 hll (t := t) (ty2 := t2) (c1 := c1)
  exact pd1.valR i hlo hr hw ((cop_append ho hc ha ht hx hy).trans h1) hd' hl (hk v' b' h' h2 h3 h4 h5)
theorem pd1.val0 {M : Nat} {v : Value} {h' : CH} {i : Nat} (hr : readyE ops ms 0 L = [(i, o)]) (hw : cwant ops tm o = some true) (hd' : o.dst = none) (hv : cop X.T tm h o = .val v h') {held : List Held} (hk : Reck X.T (maskOf ms i) h' hd held)
    (hq : PG X ops ms all M Q ops ms 0 ⟨Nat.lor L (2 ^ i), ⟨n, tm, ds, rc⟩, held⟩ h') : pd1 X ops ms all (pdg X ops ms all Q (M + 1)) ⟨L, ⟨n, tm, ds, rc⟩, hd⟩ h Q := by
  refine pd1.one hr ?_
  unfold p1e
  simp only [hw, hv]
  refine ⟨held, hk, ?_⟩
  rw [hd']
  exact hq
theorem pd1.store (i : Nat) {t : TypeId} {x y : Operand} {u : Value} {b off s : Nat} {cs cs' us : List Value} (hlo : lget ops i = some o) (hr : readyE ops ms 0 L = [(i, o)]) (hw : cwant ops tm o = some true) (ho : o.op = .store t x y) (hx : ev tm x = some (.pointer (some ⟨b, off, none⟩))) (hy : ev tm y = some u) (hd' : o.dst = none)
    (hg : h.get b = some (.cells cs false false)) (hs : X.T.size t = some s) (hus : u.cells.toList = us) (hlen : (Nat.beq us.length s && us.all isOne) = true) (hsp : lsplice us cs off = some cs') (hwf : h.wf)
    (hk : ∀ h', h'.wf → Upd b h h' → h'.get b = some (.cells cs' false false) → ∃ held, Reck X.T (maskOf ms i) h' hd held ∧ PG X ops ms all M Q ops ms 0 ⟨Nat.lor L (2 ^ i), ⟨n, tm, ds, rc⟩, held⟩ h') : pd1 X ops ms all (pdg X ops ms all Q (M + 1)) ⟨L, ⟨n, tm, ds, rc⟩, hd⟩ h Q := by
  subst hus
  obtain ⟨held, h1, h2⟩ := hk _ (CH.wf_put hwf hg) (Upd.put b (.cells cs' false false)) (by rw [CH.get_put, if_pos rfl])
  refine pd1.val0 hr hw hd' (v := undefV) ?_ h1 h2
  unfold cop
  simp only [ho, COut.of, hx, hy, cstore, ptrOf, hs, wrow, hg, hlen, cond_true, hsp]
theorem pd1.callR (i : Nat) {c : Call} {f : FuncId} {fn : Func} {first cap : Array Value} {args ar : List Value} {x : Operand} (hlo : lget ops i = some o) (hr : readyE ops ms 0 L = [(i, o)]) (hw : cwant ops tm o = some true) (ho : o.op = .call c) (hc : c.callee = .value x) (hx : ev tm x = some (.func (.func f) first cap)) (ha : evs tm c.args.toList = some args) (hf : X.T.fn f = some fn)
    (hd' : o.dst = some d) (hl : Nat.ble (d + 1) n = true) (hall : first.toList ++ args ++ cap.toList = ar)
    (hn : CalF X f ar h fun r h' => ∃ v, r = .ret v ∧ ∃ held, Reck X.T (maskOf ms i) h' hd held ∧ PG X ops ms all M Q ops ms 0 ⟨Nat.lor L (2 ^ i), ⟨n, tm.set v d, ds, rc⟩, held⟩ h') : pd1 X ops ms all (pdg X ops ms all Q (M + 1)) ⟨L, ⟨n, tm, ds, rc⟩, hd⟩ h Q := by
  subst hall
  exact pd1.call hr hw hd' hl (by unfold cop; simp only [ho, ccallO, hc, hx, ha, COut.of, ccallee, hf]) hn
end

/-- An element's address, and what is read there, now and when the heap has grown. -/
theorem Sl.readG {T : Tab} {t ts : TypeId} {h : CH} {v : Value} {vs : List Value} (hs : Sl T t h v vs) (hwf : h.wf) (hu : T.und ts = some (.slice t)) {i : Nat} {x : Value} (hx : vs[i]? = some x) (k : IntKind) :
    ∃ p, cindexAddr T ts v (.int k (i : Int)) = some p ∧ ∀ h', Gr h h' → cload T h' t p = some x := by
  obtain ⟨b, o, h1, h2⟩ := hs.at hu hx k
  obtain ⟨hl, a, c, rfl, h3⟩ := hs
  obtain ⟨b', o', cs, ro, fz, s, k1, k2, k3, k4⟩ := h3 i x hx
  refine ⟨_, h1, fun h' g => h2 h' ?_⟩
  have hlt : i < vs.length := (List.getElem?_eq_some_iff.1 hx).1
  have : b = b' := by
    subst k1
    unfold cindexAddr at h1
    rw [hu] at h1
    simp only [Option.bind_some, rowOf, natOf_cast, k2] at h1
    rw [(nble _ _).2 hlt] at h1
    simp at h1
    exact h1.1.symm
  subst this
  exact ⟨cs, ro, fz, k3, g.get b (CH.lt hwf k3)⟩
theorem SlA.readG {α : Type} {S : Value → α → Prop} {T : Tab} {t ts : TypeId} {h : CH} {v : Value} {l : List α} (hs : SlA T t S h v l) (hwf : h.wf) (hu : T.und ts = some (.slice t)) {i : Nat} {x : α} (hx : l[i]? = some x) (k : IntKind) :
    ∃ p u, cindexAddr T ts v (.int k (i : Int)) = some p ∧ S u x ∧ ∀ h', Gr h h' → cload T h' t p = some u := by
  obtain ⟨vs, h1, h2, h3⟩ := hs
  obtain ⟨u, h4, h5⟩ := h3 i x hx
  obtain ⟨p, h6, h7⟩ := h1.readG hwf hu h4 k
  exact ⟨p, u, h6, h5, h7⟩
theorem Sl.readM {α : Type} {f : α → Value} {T : Tab} {t ts : TypeId} {h : CH} {v : Value} {l : List α} (hs : Sl T t h v (l.map f)) (hwf : h.wf) (hu : T.und ts = some (.slice t)) {i : Nat} {x : α} (hx : l[i]? = some x) (k : IntKind) :
    ∃ p, cindexAddr T ts v (.int k (i : Int)) = some p ∧ ∀ h', Gr h h' → cload T h' t p = some (f x) := hs.readG hwf hu (by rw [List.getElem?_map, hx]; rfl) k

/-! ### States -/
def stepTo (nx : List (List Int)) (s c : Nat) : Nat := (((nx[s]?).bind fun r => r[c]?).getD 0).toNat
def st (nx : List (List Int)) (l : List Int) : Nat → Nat
  | 0 => 0
  | i + 1 => stepTo nx (st nx l i) (l.getD i 0).toNat
def rst (nx : List (List Int)) (l : List Int) : Nat → Nat
  | 0 => 0
  | k + 1 => stepTo nx (rst nx l k) (l.getD (l.length - 1 - k) 0).toNat
def leftS (t : TabD) (l : List Int) : List Int := (List.range (l.length + 1)).map fun i => (st t.left.next l i : Int)
def rightS (t : TabD) (l : List Int) : List Int := (List.range (l.length + 1)).map fun i => (rst t.right.next l (l.length - i) : Int)
/-- A valid table, and numbers that are classes. -/
def UsableP (t : TabD) (l : List Int) : Prop := ValidP t ∧ ∀ c, c ∈ l → 0 ≤ c ∧ c < (t.classes.length : Int)
/-- A step leads to a state. -/
theorem stepTo_ok {a : AutD} {classes rules : Nat} (hS : ShapeP a classes rules) {s c : Nat} (hs : s < a.next.length) (hc : c < classes) : stepTo a.next s c < a.next.length ∧ ∃ r, a.next[s]? = some r ∧ r[c]? = some (stepTo a.next s c : Int) := by
  obtain ⟨r, hr⟩ : ∃ r, a.next[s]? = some r := ⟨_, List.getElem?_eq_getElem hs⟩
  obtain ⟨h1, h2⟩ := (hS.2.2.2 s hs).1 r hr
  obtain ⟨x, hx⟩ : ∃ x, r[c]? = some x := ⟨_, List.getElem?_eq_getElem (by omega)⟩
  have := h2 x (List.mem_of_getElem? hx)
  have e : stepTo a.next s c = x.toNat := by unfold stepTo; rw [hr]; simp only [Option.bind_some, hx, Option.getD_some]
  refine ⟨by omega, r, hr, ?_⟩
  rw [hx, e]
  congr 1
  omega
theorem st_ok {a : AutD} {classes rules : Nat} (hS : ShapeP a classes rules) {l : List Int} (hl : ∀ c, c ∈ l → 0 ≤ c ∧ c < (classes : Int)) : ∀ i, i ≤ l.length → st a.next l i < a.next.length
  | 0, _ => hS.1
  | i + 1, hi => by
    have h1 := hl (l.getD i 0) (by rw [List.getD_eq_getElem?_getD, List.getElem?_eq_getElem hi]; exact List.getElem_mem hi)
    exact (stepTo_ok hS (st_ok hS hl i (by omega)) (by omega)).1
theorem rst_ok {a : AutD} {classes rules : Nat} (hS : ShapeP a classes rules) {l : List Int} (hl : ∀ c, c ∈ l → 0 ≤ c ∧ c < (classes : Int)) : ∀ k, k ≤ l.length → rst a.next l k < a.next.length
  | 0, _ => hS.1
  | k + 1, hi => by
    have h1 := hl (l.getD (l.length - 1 - k) 0) (by rw [List.getD_eq_getElem?_getD, List.getElem?_eq_getElem (by omega)]; exact List.getElem_mem (by omega))
    exact (stepTo_ok hS (rst_ok hS hl k (by omega)) (by omega)).1
end Go.Cx

/- The canonical executor: small helps for rows that are written, and for rounds of a range. -/
set_option linter.unusedSimpArgs false
set_option linter.unusedVariables false
namespace Go.Cx
theorem Rnd.monoW {X : Cxt} {l f n : Nat} {tm : PT Value} {as_ bd : Code} {h : CH} {Q Q' : Value → CH → Prop} (hf : Rnd X l f n tm as_ bd h Q) (hq : ∀ v h, h.wf → Q v h → Q' v h) : Rnd X l f n tm as_ bd h Q' := by
  intro e w hR l' x tmps' hl ht c cs
  obtain ⟨v, h', e', w', v', k1, k2, k3, k4⟩ := hf e w hR l' x tmps' hl ht c cs
  exact ⟨v, h', e', w', v', hq _ _ k3.hdom k1, k2, k3, k4⟩
theorem lsplice_one {α : Type} (x : α) : ∀ (l : List α) (i : Nat), i < l.length → lsplice [x] l i = some (l.set i x)
  | [], i, h => by simp at h
  | y :: l, 0, h => rfl
  | y :: l, i + 1, h => by
    show (lsplice [x] l i).map (y :: ·) = _
    rw [lsplice_one x l i (by simpa using h)]
    rfl
/-- The address of an element of a row of single cells. -/
theorem indexAddr_one {T : Tab} {t el : TypeId} {b o len c : Nat} {k : IntKind} {i : Nat} (hu : T.und t = some (.slice el)) (hs : T.size el = some 1) (hi : i < len) : cindexAddr T t (.slice (some ⟨b, o, none⟩) len c) (.int k (i : Int)) = some (.pointer (some ⟨b, o + i, none⟩)) := by
  unfold cindexAddr
  rw [hu]
  simp only [Option.bind_some, rowOf, natOf_cast, hs]
  rw [(nble _ _).2 hi]
  simp
theorem CH.put_get {h : CH} {b c : Nat} {o : CObj} (hne : c ≠ b) : (h.put b o).get c = h.get c := by rw [CH.get_put, if_neg hne]
theorem CH.put_self {h : CH} {b : Nat} {o : CObj} : (h.put b o).get b = some o := by rw [CH.get_put, if_pos rfl]
/-- A part of a slice. -/
theorem Sl.part {T : Tab} {t : TypeId} {h : CH} {a : Option Addr} {n c c' s : Nat} {vs : List Value} (hs : Sl T t h (.slice a n c) vs) (hsz : T.size t = some s) {lo hi : Nat} (hlo : lo ≤ hi) (hhi : hi ≤ vs.length) {a' : Option Addr} (ha : ∀ b o, a = some ⟨b, o, none⟩ → lo < hi → a' = some ⟨b, o + lo * s, none⟩) :
    Sl T t h (.slice a' (hi - lo) c') ((vs.take hi).drop lo) := by
  obtain ⟨hl, a0, c0, h1, h2⟩ := hs
  cases h1
  refine ⟨by simp; omega, a', c', by simp [Nat.min_eq_left hhi], fun i x hx => ?_⟩
  rw [List.getElem?_drop, List.getElem?_take] at hx
  split at hx
  · rename_i hlt
    obtain ⟨b, o, cs, ro, fz, s', k1, k2, k3, k4⟩ := h2 _ x hx
    rw [hsz] at k2
    cases k2
    refine ⟨b, o + lo * s, cs, ro, fz, s, ha b o k1 (by omega), hsz, k3, ?_⟩
    rw [Nat.add_assoc, ← Nat.add_mul]
    exact k4
  · cases hx
theorem Reck.dropI {T : Tab} {B : Nat} {h : CH} {i : Nat} {o : Oper} {tm : PT Value} {v : Value} {r r' : List Held} (hb : tb B i = true) (hr : Reck T B h r r') : Reck T B h (⟨i, o, tm, v⟩ :: r) r' := .drop hb hr
end Go.Cx

/- The canonical executor: the rounds of a range that fill a row. -/
set_option linter.unusedSimpArgs false
set_option linter.unusedVariables false
namespace Go.Cx
theorem Runs.rangeFuncG {X : Cxt} {fid : FuncId} {a : CAct} {h : CH} {Q : KP} {f : Operand} {ps : Array Tmp} {assign body : Code} {gf : FuncId} {gfn : Func} {first cap : Array Value} {al : List Value} (hf : ev a.tm f = some (.func (.func gf) first cap)) (hfn : X.T.fn gf = some gfn) (hal : first.toList ++ [.func (.yield (h.n + 1)) #[] #[]] ++ cap.toList = al)
    (hc : ∀ (r0 : Loop) (hx : CH), r0 = { state := .ready, pending := none, fn := fid, tmps := (tmList a.tm a.n []).toArray, params := ps, assign, body, defers := h.n } → hx = (h.push (.deferred true)).push (.loop r0) → CalF X gf al hx
      fun r h' => (∃ v, r = .ret v) ∧ h'.get (h.n + 1) = some (.loop r0) ∧ Q .normal { a with defers := { target := .collected h.n, args := #[] } :: a.defers } (h'.put (h.n + 1) (.loop { r0 with state := .exhausted }))) :
    Runs X fid false (.rangeFunc f ps assign body) a h Q := by
  subst hal
  refine Runs.rangeFunc hf hfn ((hc _ _ rfl rfl).mono fun r h' hh => ?_)
  exact ⟨hh.1, _, hh.2.1, by simp, rfl, hh.2.2⟩
/-- What holds between the rounds. -/
structure RJ (h1 : CH) (bs bo bb d lid : Nat) (r0 : Loop) (vl : Value) (len : Nat) (row : List Value) (h' : CH) : Prop where
  g : Gr h1 h'
  hbs : h'.get bs = some (.cells row false false)
  hbo : h'.get bo = some (.cells [.slice (some ⟨bs, 0, none⟩) len len] false false)
  hbb : h'.get bb = some (.cells [vl] false false)
  hd : h'.get d = some (.deferred true)
  hlid : h'.get lid = some (.loop r0)
theorem RJ.step {h1 : CH} {bs bo bb d lid : Nat} {r0 r1 : Loop} {vl : Value} {len : Nat} {row row' : List Value} {h' h3 : CH} (hj : RJ h1 bs bo bb d lid r0 vl len row h') (o1 : h1.n ≤ bs) (o2 : bs < bo) (o3 : bo < bb) (o4 : bb < d) (o5 : d < lid)
    (u : Upd bs (h'.put lid (.loop r1)) h3) (hb : h3.get bs = some (.cells row' false false)) : RJ h1 bs bo bb d lid r0 vl len row' (h3.put lid (.loop r0)) := by
  have key : ∀ c, c ≠ lid → c ≠ bs → (h3.put lid (.loop r0)).get c = h'.get c := fun c h1 h2 => by rw [CH.put_get h1, u.get c h2, CH.put_get h1]
  refine ⟨((hj.g.put (by omega) _).upd o1 u).put (by omega) _, ?_, ?_, ?_, ?_, CH.put_self⟩
  · rw [CH.put_get (by omega)]; exact hb
  · rw [key _ (by omega) (by omega)]; exact hj.hbo
  · rw [key _ (by omega) (by omega)]; exact hj.hbb
  · rw [key _ (by omega) (by omega)]; exact hj.hd
/-- A row that is filled from behind: f k is what comes k places before the end. -/
def rowM (f : Nat → Nat) (n m : Nat) : List Value := (List.range (n + 1)).map fun i => Value.int .i64 (if i < m then 0 else (f (n - i) : Int))
theorem rowM_length (f : Nat → Nat) (n m : Nat) : (rowM f n m).length = n + 1 := by simp [rowM]
theorem rowM_init (f : Nat → Nat) (n : Nat) (h0 : f 0 = 0) : rowM f n n = List.replicate (n + 1) (.int .i64 0) := by
  apply List.ext_getElem?
  intro i
  rw [rowM, List.getElem?_map, List.getElem?_replicate]
  by_cases hi : i < n + 1
  · rw [List.getElem?_range hi, if_pos hi]
    simp only [Option.map_some]
    by_cases h1 : i < n
    · rw [if_pos h1]
    · rw [if_neg h1, show n - i = 0 by omega, h0]; rfl
  · rw [if_neg hi, List.getElem?_eq_none (by simp; omega)]; rfl
theorem rowM_get (f : Nat → Nat) (n m i : Nat) (hi : i ≤ n) (hm : m ≤ i) : (rowM f n m)[i]? = some (.int .i64 (f (n - i) : Int)) := by
  rw [rowM, List.getElem?_map, List.getElem?_range (by omega)]
  simp only [Option.map_some]
  rw [if_neg (by omega)]
theorem rowM_step (f : Nat → Nat) (n j : Nat) (hj : j < n) : (rowM f n (j + 1)).set j (.int .i64 (f (n - j) : Int)) = rowM f n j := by
  apply List.ext_getElem?
  intro i
  rw [List.getElem?_set]
  simp only [rowM_length]
  by_cases h1 : j = i
  · subst h1
    rw [if_pos rfl, if_pos (by omega), rowM_get f n j j (by omega) (Nat.le_refl _)]
  · rw [if_neg h1, rowM, rowM, List.getElem?_map, List.getElem?_map]
    by_cases h2 : i < n + 1
    · rw [List.getElem?_range h2]
      simp only [Option.map_some]
      by_cases h3 : i < j
      · rw [if_pos (by omega), if_pos h3]
      · rw [if_neg (by omega), if_neg h3]
    · rw [List.getElem?_eq_none (by simp; omega)]; rfl
theorem rightS_row (t : TabD) (l : List Int) : rowM (rst t.right.next l) l.length 0 = (rightS t l).map (Value.int .i64) := by
  unfold rowM rightS
  rw [List.map_map]
  apply List.map_congr_left
  intro i _
  simp
end Go.Cx

/- What the functions on states and rules tell. -/
set_option linter.unusedSimpArgs false
set_option linter.unusedVariables false
namespace Go.Cx
theorem find_first {α : Type} {p : α → Bool} : ∀ {l : List α} {i : Nat} {x : α}, (∀ (j : Nat) y, j < i → l[j]? = some y → p y = false) → l[i]? = some x → p x = true → l.find? p = some x
  | [], i, x, _, hx, _ => by simp at hx
  | y :: l, 0, x, _, hx, hp => by
    cases hx
    simp [hp]
  | y :: l, i + 1, x, h, hx, hp => by
    have h0 := h 0 y (Nat.succ_pos i) rfl
    rw [List.find?_cons, h0]
    exact find_first (i := i) (fun j z hj hz => h (j + 1) z (by omega) (by simpa using hz)) (by simpa using hx) hp
theorem find_no {α : Type} {p : α → Bool} {l : List α} (h : ∀ y, y ∈ l → p y = false) : l.find? p = none := by
  rw [List.find?_eq_none]
  intro y hy
  rw [h y hy]
  decide
def rowL (m : List (List Int)) (s : Nat) : List Int := (m[s]?).getD []
def actOf (t : TabD) (x : Int) : Int := (t.actions[x.toNat]?).getD 0
/-- The action and the rule of two states. -/
def decS (t : TabD) (s u : Nat) : Int × Int :=
  match (rowL t.left.marks s).find? fun x => decide (x ∈ rowL t.right.marks u) with
  | some x => (actOf t x, x)
  | none => (2, -1)
noncomputable def LeftR (t : TabD) (l : List Int) : List Int := cond (tt (UsableP t l)) (leftS t l) []
noncomputable def RightR (t : TabD) (l : List Int) : List Int := cond (tt (UsableP t l)) (rightS t l) []
/-- The action and the rule at a position. -/
noncomputable def DecideR (t : TabD) (l : List Int) (at_ : Int) : Int × Int :=
  cond (tt (0 ≤ at_ ∧ at_ ≤ (l.length : Int) ∧ UsableP t l)) (decS t (st t.left.next l at_.toNat) (rst t.right.next l (l.length - at_.toNat))) (2, -1)
noncomputable def ActionsR (t : TabD) (l : List Int) : List Int :=
  cond (tt (UsableP t l)) ((List.range (l.length + 1)).map fun i => (decS t (st t.left.next l i) (rst t.right.next l (l.length - i))).1) []
theorem leftS_length (t : TabD) (l : List Int) : (leftS t l).length = l.length + 1 := by simp [leftS]
theorem rightS_length (t : TabD) (l : List Int) : (rightS t l).length = l.length + 1 := by simp [rightS]
theorem leftS_get {t : TabD} {l : List Int} {i : Nat} (hi : i ≤ l.length) : (leftS t l)[i]? = some (st t.left.next l i : Int) := by
  unfold leftS
  rw [List.getElem?_map, List.getElem?_range (by omega)]
  rfl
theorem rightS_get {t : TabD} {l : List Int} {i : Nat} (hi : i ≤ l.length) : (rightS t l)[i]? = some (rst t.right.next l (l.length - i) : Int) := by
  unfold rightS
  rw [List.getElem?_map, List.getElem?_range (by omega)]
  rfl
/-- What a mark's place holds: a rule's number. -/
theorem mark_ok {a : AutD} {classes rules : Nat} (hS : ShapeP a classes rules) {s : Nat} (hs : s < a.next.length) : ∃ m, a.marks[s]? = some m ∧ rowL a.marks s = m ∧ ∀ x, x ∈ m → 0 ≤ x ∧ x < (rules : Int) := by
  obtain ⟨m, hm⟩ : ∃ m, a.marks[s]? = some m := ⟨_, List.getElem?_eq_getElem (by have := hS.2.2.1; omega)⟩
  refine ⟨m, hm, by unfold rowL; rw [hm]; rfl, fun x hx => ?_⟩
  obtain ⟨k, hk⟩ := List.mem_iff_getElem?.1 hx
  have := (hS.2.2.2 s hs).2 m hm k x hk
  exact ⟨this.1, this.2.1⟩
theorem act_ok {t : TabD} {x : Int} (h0 : 0 ≤ x) (h1 : x < (t.actions.length : Int)) : t.actions[x.toNat]? = some (actOf t x) := by
  unfold actOf
  rw [List.getElem?_eq_getElem (by omega)]
  rfl
theorem eq_of_get {a b : List Int} (hl : a.length = b.length) (h : ∀ (j : Nat), j < a.length → a[j]? = b[j]?) : a = b := by
  apply List.ext_getElem? 
  intro i
  rcases Nat.lt_or_ge i a.length with h1 | h1
  · exact h i h1
  · rw [List.getElem?_eq_none h1, List.getElem?_eq_none (by omega)]
end Go.Cx

/- Arguments that are slices or numbers. -/
set_option linter.unusedSimpArgs false
set_option linter.unusedVariables false
namespace Go.Cx
/-- What two states decide. -/
theorem decS_ok {t : TabD} {s u : Nat} (hP : ValidP t) (hs : s < t.left.next.length) (hu : u < t.right.next.length) :
    (0 ≤ (decS t s u).2 ∧ (decS t s u).2 < (t.actions.length : Int) ∧ t.actions[(decS t s u).2.toNat]? = some (decS t s u).1) ∨ ((decS t s u).1 = 2 ∧ (decS t s u).2 = -1) := by
  obtain ⟨m, hm1, hm2, hm3⟩ := mark_ok hP.2.2.2.1 hs
  unfold decS
  rw [hm2]
  split
  · rename_i x hx
    have hmem := List.mem_of_find?_eq_some hx
    obtain ⟨h1, h2⟩ := hm3 x hmem
    exact .inl ⟨h1, h2, act_ok h1 h2⟩
  · exact .inr ⟨rfl, rfl⟩
/-- A region of N operations that draws their order. -/
theorem PG.startA {X : Cxt} {Q : KP} {h : CH} {fid : FuncId} {rnd : Bool} {id : Nat} {ops : Array Oper} {a : CAct} (N all : Nat) (ms : List OpM) (hN : ops.size = N) (ha : 2 ^ N - 1 = all) (hm : opMs ops.toList ops.toList [] = ms) (hp : pairsOk ms ms 0 = true)
    (hn : PG X ops.toList ms all N Q ops.toList ms 0 { listed := 0, a, held := [] } h) : Runs X fid rnd (.region id ops true) a h Q := by
  subst hN ha
  exact PG.start ms hm hp hn
theorem pd1.finA {X : Cxt} {ops : List Oper} {ms : List OpM} {all L : Nat} {Q : KP} {h : CH} {a : CAct} {hd : List Held} {next : Stage → CH → Prop} (hr : readyE ops ms 0 L = []) (ha : Nat.beq L all = true) (hq : Q .normal a h) : pd1 X ops ms all next ⟨L, a, hd⟩ h Q := pd1.fin hr ha hq
section
variable {H : Type} {P : Program} {T : Tab}
theorem notAgg_slice {w : World} {r : Reach} {base : Nat} {t e : TypeId} {v : Value} (hu : P.underlying t = some (.slice e)) (hv : Value.okWide P w r base t v) : ∀ a, v ≠ .agg a := by
  rintro a rfl
  simp [Value.okWide, hu, Cell.okWide, Cell.ok] at hv
theorem notAgg_int {w : World} {r : Reach} {base : Nat} {t : TypeId} {k : IntKind} {v : Value} (hu : P.underlying t = some (.int k)) (hv : Value.okWide P w r base t v) : ∀ a, v ≠ .agg a := by
  rintro a rfl
  simp [Value.okWide, hu, Cell.okWide, Cell.ok] at hv
theorem ints_arg {h : CH} {t el : TypeId} {cv : Value} {d : DataW H} (hu : T.und t = some (.slice el)) (hs : T.size el = some 1) (hue : T.und el = some (.int .i64)) (hn : ∀ a, cv ≠ .agg a) (hh : Has T h t cv.cells.toList d) : ∃ l, SlI T el h cv l := by
  rw [cells_one hn] at hh
  obtain ⟨v, l, h1, _, h2⟩ := ints_of hu hs hue hh
  have : cv = v := by simpa using h1
  exact ⟨l, this ▸ h2⟩
theorem int_arg {h : CH} {t : TypeId} {cv : Value} {d : DataW H} (hu : T.und t = some (.int .i64)) (hn : ∀ a, cv ≠ .agg a) (hh : Has T h t cv.cells.toList d) : ∃ n : Int, cv = .int .i64 n := by
  rw [cells_one hn] at hh
  obtain ⟨n, h1⟩ := int_of hu hh
  exact ⟨n, by simpa using h1⟩
end
end Go.Cx

/- The canonical executor: parts of slices; prefixes of lists and their states. -/
set_option linter.unusedSimpArgs false
set_option linter.unusedVariables false
namespace Go.Cx
/-- A slice of elements of s cells of which the capacity is told. -/
def CapOk (v : Value) (s : Nat) : Prop := v = .slice none 0 0 ∨ ∃ b o n c, v = .slice (some ⟨b, o, none⟩) n c ∧ ((n ≤ c ∧ c < unk) ∨ c = unk + s)
theorem Own.cap {h : CH} {v : Value} {b : Nat} {l : List Value} (ho : Own h v b l) (hl : l.length ≤ 1000000) : CapOk v 1 := by
  rcases ho with ⟨_, rfl⟩ | ⟨c, rfl, _, rfl | rfl⟩
  · exact .inl rfl
  · exact .inr ⟨b, 0, _, _, rfl, .inl ⟨Nat.le_refl _, by unfold unk; omega⟩⟩
  · exact .inr ⟨b, 0, _, _, rfl, .inr rfl⟩
theorem okB {n l h : Nat} (h1 : l ≤ h) (h2 : h ≤ n) : okBounds n l h = true := by
  unfold okBounds
  simp [Nat.ble_eq, h1, h2]
theorem cslice_to {T : Tab} {tm : PT Value} {t e : TypeId} {v : Value} {vs : List Value} {h : CH} {lo hi : Option Operand} {l u : Nat} (hs : Sl T e h v vs) (hu : T.und t = some (.slice e)) (hsz : T.size e = some 1) (hc : CapOk v 1) (hlo : cbound tm 0 lo = some l) (hhi : cbound tm vs.length hi = some u) (h1 : l ≤ u) (h2 : u ≤ vs.length) :
    ∃ v', cslice T tm t v lo hi none = some v' ∧ Sl T e h v' ((vs.take u).drop l) := by
  have hs0 := hs
  obtain ⟨hl, a, c, rfl, _⟩ := hs
  unfold cslice
  simp only [hu, hsz, Option.bind_some]
  rcases hc with hc | ⟨b, o, n, c', hv, hcap⟩
  · simp only [Value.slice.injEq] at hc
    obtain ⟨rfl, hn, rfl⟩ := hc
    have hlu : l = 0 ∧ u = 0 := by omega
    obtain ⟨rfl, rfl⟩ := hlu
    refine ⟨.slice none 0 0, ?_, ?_⟩
    · rw [(nble 1 1).2 (Nat.le_refl 1)]
      simp only [cond_true, csliceV]
      rw [(nble_ff unk 0).2 (by unfold unk; omega)]
      simp only [cond_false, csliceK, hlo, hhi, Option.bind_some]
      rw [okB (Nat.le_refl 0) (Nat.zero_le _)]
      rfl
    · simp only [List.take_zero, List.drop_zero]
      exact ⟨by simp, none, 0, rfl, fun i x hx => by simp at hx⟩
  · simp only [Value.slice.injEq] at hv
    obtain ⟨rfl, rfl, rfl⟩ := hv
    rw [(nble 1 1).2 (Nat.le_refl 1)]
    simp only [cond_true, csliceV]
    rcases hcap with ⟨hc1, hc2⟩ | rfl
    · rw [(nble_ff unk c).2 (by omega)]
      simp only [cond_false, csliceK, hlo, hhi, Option.bind_some]
      rw [okB h1 (by omega)]
      simp only [cond_true, subAddr]
      refine ⟨_, rfl, hs0.part hsz h1 h2 fun b' o' hb hlt => ?_⟩
      cases hb
      have : Nat.beq c l = false := (nbeq_ff _ _).2 (by omega)
      rw [this]
      rfl
    · rw [(nble unk (unk + 1)).2 (by omega)]
      simp only [cond_true, csliceU, hlo, hhi, Option.bind_some]
      rw [okB h1 h2, Nat.beq_refl]
      refine ⟨_, rfl, hs0.part hsz h1 h2 fun b' o' hb _ => ?_⟩
      cases hb
      rfl

theorem PG.slice {X : Cxt} {ops : List Oper} {ms : List OpM} {all N : Nat} {Q : KP} {l : List Oper} {lm : List OpM} {i : Nat} {h : CH} {o : Oper} {m : OpM} {L n d : Nat} {tm : PT Value} {ds : List Deferred} {rc : Option FrameMode} {hd : List Held} {t e : TypeId} {x : Operand} {lo hi : Option Operand} {v : Value} {vs : List Value} {l0 u0 : Nat}
    (hc : (!tb L i && floatOp o.op && depsIn m.deps L) = true) (hw : cwant ops tm o = some true) (ho : o.op = .slice t x lo hi none) (hx : ev tm x = some v) (hd' : o.dst = some d) (hl : Nat.ble (d + 1) n = true)
    (hs : Sl X.T e h v vs) (hu : X.T.und t = some (.slice e)) (hsz : X.T.size e = some 1) (hcap : CapOk v 1) (hlo : cbound tm 0 lo = some l0) (hhi : cbound tm vs.length hi = some u0) (h1 : l0 ≤ u0) (h2 : u0 ≤ vs.length)
    (hn : ∀ v', Sl X.T e h v' ((vs.take u0).drop l0) → PG X ops ms all N Q l lm (i + 1) ⟨Nat.lor L (2 ^ i), ⟨n, tm.set v' d, ds, rc⟩, ⟨i, o, tm, v'⟩ :: hd⟩ h) : PG X ops ms all N Q (o :: l) (m :: lm) i ⟨L, ⟨n, tm, ds, rc⟩, hd⟩ h := by
  obtain ⟨v', h3, h4⟩ := cslice_to (tm := tm) hs hu hsz hcap hlo hhi h1 h2
  exact PG.take hc hw hd' hl (by unfold cfl; simp only [ho, hx, Option.bind_some, h3]) (hn v' h4)
theorem Reck.inc {T : Tab} {B : Nat} {h : CH} {q : Held} {r r' : List Held} {t yt : TypeId} {x : Operand} {i : Nat} (ho : q.o.op = .binOp .add t x (.const (.int .i64 1)) yt) (hx : ev q.tm x = some (.int .i64 (i : Int))) (hv : q.v = .int .i64 ((i + 1 : Nat) : Int)) (hi : i + 1 < 9223372036854775808) (hr : Reck T B h r r') : Reck T B h (q :: r) (q :: r') :=
  .same (by
    unfold cfl
    simp only [ho, hx, Option.bind_some]
    rw [hv]
    exact cbin_inc (T := T) (h := h) (t := t) (xo := x) (yo := .const (.int .i64 1)) hi) hr
theorem st_take {nx : List (List Int)} {l : List Int} {k : Nat} : ∀ i, i ≤ k → k ≤ l.length → st nx (l.take k) i = st nx l i
  | 0, _, _ => rfl
  | i + 1, hi, hk => by
    show stepTo _ _ _ = stepTo _ _ _
    rw [st_take i (by omega) hk]
    congr 2
    rw [List.getD_eq_getElem?_getD, List.getD_eq_getElem?_getD, List.getElem?_take, if_pos (by omega)]
theorem rst_drop {nx : List (List Int)} {l : List Int} {k : Nat} : ∀ i, i + k ≤ l.length → rst nx (l.drop k) i = rst nx l i
  | 0, _ => rfl
  | i + 1, hi => by
    show stepTo _ _ _ = stepTo _ _ _
    rw [rst_drop i (by omega)]
    congr 2
    rw [List.getD_eq_getElem?_getD, List.getD_eq_getElem?_getD, List.getElem?_drop, List.length_drop]
    congr 2
    omega
theorem leftS_take {t : TabD} {l : List Int} {k : Nat} (hk : k ≤ l.length) : leftS t (l.take k) = (leftS t l).take (k + 1) := by
  unfold leftS
  rw [← List.map_take, List.take_range, List.length_take, Nat.min_eq_left hk, Nat.min_eq_left (by omega)]
  apply List.map_congr_left
  intro i hi
  rw [st_take i (by have := List.mem_range.1 hi; omega) hk]
theorem rightS_drop {t : TabD} {l : List Int} {k : Nat} (hk : k ≤ l.length) : rightS t (l.drop k) = (rightS t l).drop k := by
  apply List.ext_getElem?
  intro i
  rw [List.getElem?_drop]
  by_cases hi : k + i ≤ l.length
  · rw [rightS_get (t := t) (l := l.drop k) (i := i) (by simp; omega), rightS_get (t := t) (l := l) (i := k + i) hi]
    rw [List.length_drop, rst_drop _ (by omega)]
    congr 3
    omega
  · rw [List.getElem?_eq_none (by rw [rightS_length]; simp; omega), List.getElem?_eq_none (by rw [rightS_length]; omega)]
theorem UsableP.take {t : TabD} {l : List Int} {k : Nat} (h : UsableP t l) : UsableP t (l.take k) := ⟨h.1, fun c hc => h.2 c (List.mem_of_mem_take hc)⟩
theorem UsableP.drop {t : TabD} {l : List Int} {k : Nat} (h : UsableP t l) : UsableP t (l.drop k) := ⟨h.1, fun c hc => h.2 c (List.mem_of_mem_drop hc)⟩
/-- A list of numbers that is an argument, with its capacity. -/
theorem ints_argC {H : Type} {T : Tab} {h : CH} {t el : TypeId} {cv : Value} {d : DataW H} (hu : T.und t = some (.slice el)) (hs : T.size el = some 1) (hue : T.und el = some (.int .i64)) (hn : ∀ a, cv ≠ .agg a) (hh : Has T h t cv.cells.toList d) : ∃ l, SlI T el h cv l ∧ CapOk cv 1 := by
  obtain ⟨l, hl⟩ := ints_arg hu hs hue hn hh
  refine ⟨l, hl, ?_⟩
  rw [cells_one hn] at hh
  generalize hcs : [cv] = cs at hh
  cases hh with
  | int hu' _ => rw [hu] at hu'; cases hu'
  | bool hu' => rw [hu] at hu'; cases hu'
  | str hu' _ => rw [hu] at hu'; cases hu'
  | struct hu' => rw [hu] at hu'; cases hu'
  | nil hu' => simp only [List.cons.injEq, and_true] at hcs; exact .inl hcs
  | slice hu' hs' hl' hc' hsub hall =>
    simp only [List.cons.injEq, and_true] at hcs
    unfold maxLen at hc'
    exact .inr ⟨_, _, _, _, hcs, .inl ⟨hl', by unfold unk; omega⟩⟩
end Go.Cx
