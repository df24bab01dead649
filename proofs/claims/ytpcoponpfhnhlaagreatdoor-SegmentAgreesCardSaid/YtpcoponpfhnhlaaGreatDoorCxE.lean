/- The canonical executor: rules for writing, ranges over functions, states of automata. Conditions: none. -/
import Derived.Test.YtpcoponpfhnhlaaGreatDoorCxD
import Derived.ProofKit
import Derived.OpenShut
set_option linter.unusedSimpArgs false
set_option linter.unusedVariables false
namespace Go.Cx
section
variable {H : Type} {T : Tab} {h : CH}
theorem int_of {t : TypeId} {cs : List Value} {d : DataW H} (hu : T.und t = some (.int .i64)) (hh : Has T h t cs d) : ∃ n : Int, cs = [.int .i64 n] := by
  cases hh with
  | int hu' _ => rw [hu] at hu'; cases hu'; exact ⟨_, rfl⟩
  | bool hu' => rw [hu] at hu'; cases hu'
  | str hu' _ => rw [hu] at hu'; cases hu'
  | nil hu' => rw [hu] at hu'; cases hu'
  | slice hu' => rw [hu] at hu'; cases hu'
  | struct hu' => rw [hu] at hu'; cases hu'
theorem str_of {t : TypeId} {cs : List Value} {d : DataW H} (hu : T.und t = some .string) (hh : Has T h t cs d) : ∃ s : ByteArray, cs = [.string s] ∧ s.data.toList.length < 9223372036854775808 := by
  cases hh with
  | int hu' _ => rw [hu] at hu'; cases hu'
  | bool hu' => rw [hu] at hu'; cases hu'
  | str hu' hs => exact ⟨_, rfl, by unfold maxLen at hs; have : ∀ s : ByteArray, s.data.toList.length = s.size := fun s => Array.length_toList; rw [this]; omega⟩
  | nil hu' => rw [hu] at hu'; cases hu'
  | slice hu' => rw [hu] at hu'; cases hu'
  | struct hu' => rw [hu] at hu'; cases hu'
theorem slice_of {t el : TypeId} {de : TypeDesc} {cs : List Value} {d : DataW H} (hu : T.und t = some (.slice el)) (hs : T.size el = some 1) (hue : T.und el = some de) (ha : isAggD de = false) (hh : Has T h t cs d) :
    ∃ v vs, cs = [v] ∧ isOne v = true ∧ Sl T el h v vs ∧ ∀ x, x ∈ vs → ∃ d : DataW H, Has T h el [x] d := by
  cases hh with
  | int hu' _ => rw [hu] at hu'; cases hu'
  | bool hu' => rw [hu] at hu'; cases hu'
  | str hu' _ => rw [hu] at hu'; cases hu'
  | nil hu' => exact ⟨_, [], rfl, rfl, ⟨by decide, none, 0, rfl, fun i x hx => by simp at hx⟩, fun x hx => by cases hx⟩
  | struct hu' => rw [hu] at hu'; cases hu'
  | slice hu' hs' hl hc hsub hall =>
    rw [hu] at hu'
    cases hu'
    rw [hs] at hs'
    cases hs'
    rename_i b o c ds rest l
    have key : ∀ i, i < ds.length → ∃ (x : Value) (d : DataW H) (cs : List Value) (ro fz : Bool), l i = [x] ∧ Has T h el [x] d ∧ h.get b = some (.cells cs ro fz) ∧ cs[o + i]? = some x := by
      intro i hi
      have hd := List.getElem?_eq_getElem hi
      obtain ⟨cs, ro, fz, h1, h2⟩ := hsub i _ hd
      obtain ⟨h3, h4⟩ := lsub_some _ _ _ _ h2
      have h5 := hall i _ hd
      rw [Nat.mul_one] at h3 h4
      have h6 : cs[o + i]? = some cs[o + i] := List.getElem?_eq_getElem (by omega)
      have h7 : l i = [cs[o + i]] := by rw [h4, List.take_one, List.head?_drop, h6]; rfl
      rw [h7] at h5
      exact ⟨cs[o + i], ds[i], cs, ro, fz, h7, h5, h1, h6⟩
    refine ⟨_, (List.range ds.length).map fun i => (l i).headD undefV, rfl, rfl, ⟨?_, some ⟨b, o, none⟩, c, by simp, fun i x hx => ?_⟩, fun x hx => ?_⟩
    · unfold maxLen at hc
      simp
      omega
    · rw [List.getElem?_map] at hx
      obtain ⟨j, hj, rfl⟩ := Option.map_eq_some_iff.1 hx
      have hji := List.getElem?_eq_some_iff.1 hj
      obtain ⟨hi, hji⟩ := hji
      simp at hji hi
      subst hji
      obtain ⟨x, d, cs, ro, fz, h1, h2, h3, h4⟩ := key i hi
      refine ⟨b, o, cs, ro, fz, 1, rfl, hs, h3, ?_⟩
      rw [cpart_one hue ha, Nat.mul_one, h4, h1]
      rfl
    · obtain ⟨i, hi, rfl⟩ := List.mem_map.1 hx
      simp at hi
      obtain ⟨x, d, cs, ro, fz, h1, h2, h3, h4⟩ := key i hi
      rw [h1]
      exact ⟨d, h2⟩
theorem choose_map {α : Type} {f : α → Value} {Q : α → Prop} : ∀ {vs : List Value}, (∀ x, x ∈ vs → ∃ s, x = f s ∧ Q s) → ∃ l : List α, vs = l.map f ∧ ∀ s, s ∈ l → Q s
  | [], _ => ⟨[], rfl, fun s hs => by cases hs⟩
  | x :: vs, h => by
    obtain ⟨s, rfl, hs⟩ := h x (List.mem_cons_self ..)
    obtain ⟨l, rfl, hl⟩ := choose_map (fun y hy => h y (List.mem_cons_of_mem _ hy))
    exact ⟨s :: l, rfl, fun y hy => (List.mem_cons.1 hy).elim (fun e => e ▸ hs) (hl y)⟩
theorem choose_list {α : Type} {S : Value → α → Prop} : ∀ {vs : List Value}, (∀ x, x ∈ vs → ∃ l, S x l) → ∃ ll : List α, vs.length = ll.length ∧ ∀ (i : Nat) (l : α), ll[i]? = some l → ∃ u, vs[i]? = some u ∧ S u l
  | [], _ => ⟨[], rfl, fun i l hl => by simp at hl⟩
  | x :: vs, h => by
    obtain ⟨s, hs⟩ := h x (List.mem_cons_self ..)
    obtain ⟨l, h1, h2⟩ := choose_list (fun y hy => h y (List.mem_cons_of_mem _ hy))
    refine ⟨s :: l, by simp [h1], fun i y hy => ?_⟩
    cases i with
    | zero => cases hy; exact ⟨x, rfl, hs⟩
    | succ i => exact h2 i y (by simpa using hy)
theorem strs_of {t el : TypeId} {cs : List Value} {d : DataW H} (hu : T.und t = some (.slice el)) (hs : T.size el = some 1) (hue : T.und el = some .string) (hh : Has T h t cs d) : ∃ v l, cs = [v] ∧ isOne v = true ∧ SlS T el h v l ∧ ∀ s, s ∈ l → s.data.toList.length < 9223372036854775808 := by
  obtain ⟨v, vs, h1, h2, h3, h4⟩ := slice_of hu hs hue rfl hh
  obtain ⟨l, rfl, hl⟩ := choose_map (f := Value.string) (Q := fun s => s.data.toList.length < 9223372036854775808) (fun x hx => by
    obtain ⟨d, hd⟩ := h4 x hx
    obtain ⟨s, h5, h6⟩ := str_of hue hd
    exact ⟨s, by simpa using h5, h6⟩)
  exact ⟨v, l, h1, h2, h3, hl⟩
theorem ints_of {t el : TypeId} {cs : List Value} {d : DataW H} (hu : T.und t = some (.slice el)) (hs : T.size el = some 1) (hue : T.und el = some (.int .i64)) (hh : Has T h t cs d) : ∃ v l, cs = [v] ∧ isOne v = true ∧ SlI T el h v l := by
  obtain ⟨v, vs, h1, h2, h3, h4⟩ := slice_of hu hs hue rfl hh
  obtain ⟨l, rfl, hl⟩ := choose_map (f := Value.int .i64) (Q := fun _ => True) (fun x hx => by
    obtain ⟨d, hd⟩ := h4 x hx
    obtain ⟨s, h5⟩ := int_of hue hd
    exact ⟨s, by simpa using h5, trivial⟩)
  exact ⟨v, l, h1, h2, h3⟩
theorem intss_of {t ts el : TypeId} {cs : List Value} {d : DataW H} (hu : T.und t = some (.slice ts)) (hss : T.size ts = some 1) (hus : T.und ts = some (.slice el)) (hs : T.size el = some 1) (hue : T.und el = some (.int .i64)) (hh : Has T h t cs d) : ∃ v l, cs = [v] ∧ isOne v = true ∧ SlII T ts el h v l := by
  obtain ⟨v, vs, h1, h2, h3, h4⟩ := slice_of hu hss hus rfl hh
  obtain ⟨ll, h5, h6⟩ := choose_list (S := SlI T el h) (fun x hx => by
    obtain ⟨d, hd⟩ := h4 x hx
    obtain ⟨v, l, h7, _, h8⟩ := ints_of hus hs hue hd
    have : x = v := by simpa using h7
    exact ⟨l, this ▸ h8⟩)
  exact ⟨v, ll, h1, h2, vs, h3, h5, h6⟩
theorem struct_of {t : TypeId} {fs : Array Field} {cs : List Value} {d : DataW H} (hu : T.und t = some (.struct fs)) (hh : Has T h t cs d) : ∃ xs : List (DataW H), HasL T h fs.toList cs xs := by
  cases hh with
  | int hu' _ => rw [hu] at hu'; cases hu'
  | bool hu' => rw [hu] at hu'; cases hu'
  | str hu' _ => rw [hu] at hu'; cases hu'
  | nil hu' => rw [hu] at hu'; cases hu'
  | slice hu' => rw [hu] at hu'; cases hu'
  | struct hu' hs hf => rw [hu] at hu'; cases hu'; exact ⟨_, hf⟩
structure TabTys (T : Tab) (k : Tys) (tb au ss iis : TypeId) : Prop where
  tb : ∃ fs : Array Field, T.und tb = some (.struct fs) ∧ fs.toList.map (·.type) = [ss, k.ints, au, au]
  au : ∃ fs : Array Field, T.und au = some (.struct fs) ∧ fs.toList.map (·.type) = [iis, iis]
  ss : T.und ss = some (.slice k.str)
  iis : T.und iis = some (.slice k.ints)
  ints : T.und k.ints = some (.slice k.int)
  int : T.und k.int = some (.int .i64)
  str : T.und k.str = some .string
  sint : T.size k.int = some 1
  sstr : T.size k.str = some 1
  sints : T.size k.ints = some 1
theorem two_of {fs : List Field} {a b : TypeId} {cs : List Value} {xs : List (DataW H)} (hf : fs.map (·.type) = [a, b]) (hh : HasL T h fs cs xs) : ∃ (c1 c2 : List Value) (d1 d2 : DataW H), cs = c1 ++ c2 ∧ Has T h a c1 d1 ∧ Has T h b c2 d2 := by
  cases hh with
  | nil => cases hf
  | cons hs hx ht =>
    cases ht with
    | nil => cases hf
    | cons hs2 hx2 ht2 =>
      cases ht2 with
      | nil =>
        simp only [List.map_cons, List.map_nil, List.cons.injEq, and_true] at hf
        obtain ⟨rfl, rfl⟩ := hf
        exact ⟨_, _, _, _, by rw [List.append_nil], hx, hx2⟩
      | cons _ _ _ => simp at hf
theorem four_of {fs : List Field} {a b c e : TypeId} {cs : List Value} {xs : List (DataW H)} (hf : fs.map (·.type) = [a, b, c, e]) (hh : HasL T h fs cs xs) : ∃ (c1 c2 c3 c4 : List Value) (d1 d2 d3 d4 : DataW H), cs = c1 ++ (c2 ++ (c3 ++ c4)) ∧ Has T h a c1 d1 ∧ Has T h b c2 d2 ∧ Has T h c c3 d3 ∧ Has T h e c4 d4 := by
  cases hh with
  | nil => cases hf
  | cons hs hx ht =>
    cases ht with
    | nil => simp at hf
    | cons hs2 hx2 ht2 =>
      simp only [List.map_cons, List.cons.injEq] at hf
      obtain ⟨rfl, rfl, hf⟩ := hf
      obtain ⟨c3, c4, d3, d4, rfl, h3, h4⟩ := two_of hf ht2
      exact ⟨_, _, c3, c4, _, _, d3, d4, rfl, hx, hx2, h3, h4⟩
theorem aut_of {k : Tys} {tb au ss iis : TypeId} (ht : TabTys T k tb au ss iis) {cs : List Value} {d : DataW H} (hh : Has T h au cs d) : ∃ x y a, cs = [x, y] ∧ isOne x = true ∧ isOne y = true ∧ SlII T k.ints k.int h x (AutD.next a) ∧ SlII T k.ints k.int h y (AutD.marks a) := by
  obtain ⟨fs, h1, h2⟩ := ht.au
  obtain ⟨xs, h3⟩ := struct_of h1 hh
  obtain ⟨c1, c2, d1, d2, rfl, h4, h5⟩ := two_of h2 h3
  obtain ⟨x, l, rfl, h6, h7⟩ := intss_of ht.iis ht.sints ht.ints ht.sint ht.int h4
  obtain ⟨y, m, rfl, h8, h9⟩ := intss_of ht.iis ht.sints ht.ints ht.sint ht.int h5
  exact ⟨x, y, ⟨l, m⟩, rfl, h6, h8, h7, h9⟩
theorem tab_of {k : Tys} {tb au ss iis : TypeId} (ht : TabTys T k tb au ss iis) {cv : Value} {d : DataW H} (hh : Has T h tb cv.cells.toList d) : ∃ t, TabV T k h cv t ∧ ∀ s, s ∈ t.classes → s.data.toList.length < 9223372036854775808 := by
  obtain ⟨fs, h1, h2⟩ := ht.tb
  obtain ⟨xs, h3⟩ := struct_of h1 hh
  obtain ⟨c1, c2, c3, c4, d1, d2, d3, d4, hcs, h4, h5, h6, h7⟩ := four_of h2 h3
  obtain ⟨c, cl, rfl, o1, q1, q1'⟩ := strs_of ht.ss ht.sstr ht.str h4
  obtain ⟨a, ac, rfl, o2, q2⟩ := ints_of ht.ints ht.sint ht.int h5
  obtain ⟨x, y, l, rfl, o3, o4, q3, q4⟩ := aut_of ht h6
  obtain ⟨x', y', r, rfl, o5, o6, q5, q6⟩ := aut_of ht h7
  have : cv = .agg #[c, a, x, y, x', y'] := by
    cases cv
    case agg a' =>
      simp only [Value.cells] at hcs
      congr 1
      exact Array.toList_inj.1 hcs
    all_goals (simp [Value.cells] at hcs)
  exact ⟨⟨cl, ac, l, r⟩, ⟨c, a, x, y, x', y', this, by simp [o1, o2, o3, o4, o5, o6], q1, q2, q3, q4, q5, q6⟩, q1'⟩
end
end Go.Cx
set_option linter.unusedSimpArgs false
set_option linter.unusedVariables false
namespace Go.Cx
def Own (h : CH) (v : Value) (b : Nat) (l : List Value) : Prop :=
  (l = [] ∧ v = .slice none 0 0) ∨ ∃ c, v = .slice (some ⟨b, 0, none⟩) l.length c ∧ h.get b = some (.cells l false false) ∧ (c = l.length ∨ c = unk + 1)
structure Chg (b : Nat) (h h' : CH) : Prop where
  n : h.n ≤ h'.n
  get : ∀ c, c < h.n → c ≠ b → h'.get c = h.get c
theorem Gr.chg {h0 h h' : CH} {b : Nat} (g : Gr h0 h) (hb : h0.n ≤ b) (u : Chg b h h') : Gr h0 h' :=
  ⟨Nat.le_trans g.n u.n, fun c hc => (u.get c (Nat.lt_of_lt_of_le hc g.n) (by omega)).trans (g.get c hc)⟩
theorem Own.gr {h h' : CH} {v : Value} {b : Nat} {l : List Value} (ho : Own h v b l) (hw : h.wf) (g : Gr h h') : Own h' v b l := by
  rcases ho with ho | ⟨c, h1, h2, h3⟩
  · exact .inl ho
  · exact .inr ⟨c, h1, g.at hw h2, h3⟩
theorem Own.sl {T : Tab} {t : TypeId} {d : TypeDesc} {h : CH} {v : Value} {b : Nat} {l : List Value} (ho : Own h v b l) (hs : T.size t = some 1) (hu : T.und t = some d) (ha : isAggD d = false) (hl : l.length < 9223372036854775808) : Sl T t h v l := by
  rcases ho with ⟨rfl, rfl⟩ | ⟨c, rfl, h2, h3⟩
  · exact ⟨hl, none, 0, rfl, fun i x hx => by simp at hx⟩
  · exact Sl.one h2 hs hu ha hl rfl
theorem append_own {T : Tab} {t e : TypeId} {ty2 : TypeId} {i : TypeInfo} {z : List Value} {h : CH} {v x : Value} {b b1 : Nat} {l : List Value} {c1 : Nat} (hw : h.wf) (ho : Own h v b l) (hu : T.und t = some (.slice e)) (hi : T.info e = some i) (hsz : i.size = 1) (hby : 1 ≤ i.bytes) (hbb : i.bytes ≤ 64) (hz : zeroCellsOf T e = some z) (hzl : z.length = 1)
    (hu2 : isSliceD (T.und ty2) = true) (hx1 : isOne x = true) (hb1 : h.get b1 = some (.cells [x] false false)) (hll : l.length ≤ 1000000) :
    ∃ v' h' b', cappend T h [t, ty2] v (.slice (some ⟨b1, 0, none⟩) 1 c1) = .val v' h' ∧ h'.wf ∧ Chg b h h' ∧ h.n ≤ b' ∧ Own h' v' b' (l ++ [x]) := by
  have hsrc : csrc T h 1 e (some ty2) (.slice (some ⟨b1, 0, none⟩) 1 c1) = some (1, [x]) := by
    unfold csrc
    simp only [Option.bind_some, hu2, cond_true]
    rw [row_of hb1]
    rfl
  have hguard : (Nat.ble 1 1 && Nat.ble 1 i.bytes && Nat.beq z.length 1 && Nat.ble ((4 * (l.length + 1) + 4000) * i.bytes) 281474976710656 && [x].all isOne) = true := by
    have h1 : (4 * (l.length + 1) + 4000) * i.bytes ≤ 281474976710656 := by
      have : (4 * (l.length + 1) + 4000) * i.bytes ≤ 4004004 * 64 := Nat.mul_le_mul (by omega) hbb
      omega
    simp [hzl, hx1, Nat.ble_eq, hby, h1]
  rcases ho with ⟨rfl, rfl⟩ | ⟨c, rfl, h2, h3⟩
  · refine ⟨.slice (some ⟨h.n, 0, none⟩) (0 + 1) (unk + 1), h.push (.cells ([] ++ [x]) false false), h.n, ?_, CH.wf_push hw _, ⟨Nat.le_succ _, fun c hc _ => by rw [CH.get_push, if_neg (by omega)]⟩, Nat.le_refl _, .inr ⟨_, rfl, by rw [CH.get_push, if_pos rfl], .inr rfl⟩⟩
    unfold cappend
    simp only [COut.of, List.head?_cons, hu, hi, hz, hsz, List.tail_cons, hsrc, cappend2]
    have hguard := hguard
    simp only [List.length_nil] at hguard
    rw [hguard]
    rfl
  · rcases h3 with rfl | rfl
    · refine ⟨.slice (some ⟨h.n, 0, none⟩) (l.length + 1) (unk + 1), h.push (.cells (l ++ [x]) false false), h.n, ?_, CH.wf_push hw _, ⟨Nat.le_succ _, fun c hc _ => by rw [CH.get_push, if_neg (by omega)]⟩, Nat.le_refl _, .inr ⟨_, by simp, by rw [CH.get_push, if_pos rfl], .inr rfl⟩⟩
      unfold cappend
      simp only [COut.of, List.head?_cons, hu, hi, hz, hsz, List.tail_cons, hsrc, cappend2]
      rw [hguard, (nble_ff unk l.length).2 (by unfold unk; omega), (nble_ff _ _).2 (by omega)]
      simp only [cond_true, cond_false, appNew]
      rw [row_of h2]
      simp only [Option.bind_some, COut.of]
      rw [Nat.mul_one, lsub_of l 0 l.length (by omega)]
      simp
    · refine ⟨.slice (some ⟨h.n, 0, none⟩) (l.length + 1) (unk + 1), (h.put b .dead).push (.cells (l ++ [x]) false false), h.n, ?_, CH.wf_push (CH.wf_put hw h2) _, ⟨Nat.le_succ _, fun c hc hne => ?_⟩, Nat.le_refl _, .inr ⟨_, by simp, ?_, .inr rfl⟩⟩
      · unfold cappend
        simp only [COut.of, List.head?_cons, hu, hi, hz, hsz, List.tail_cons, hsrc, cappend2]
        rw [hguard, (nble unk (unk + 1)).2 (by omega), Nat.beq_refl]
        simp only [cond_true, appU, wrow, h2, COut.of]
        rw [Nat.mul_one, lsub_of l 0 l.length (by omega)]
        simp
      · rw [CH.get_push, if_neg (by rw [CH.n_put]; omega), CH.get_put, if_neg hne]
      · rw [CH.get_push, if_pos (by rw [CH.n_put])]
section
variable {X : Cxt} {rnd : Bool} {ops : List Oper} {o : Oper} {l : List Oper} {n : Nat} {tm : PT Value} {ds : List Deferred} {rc : Option FrameMode} {h : CH} {Q : KP} {d : Nat}
theorem cop_append {c : Call} {xo yo : Operand} {t t2 : TypeId} {v u : Value} (ho : o.op = .call c) (hc : c.callee = .builtin .append) (ha : c.args.toList = [xo, yo]) (ht : c.argTypes.toList = [t, t2]) (hx : ev tm xo = some v) (hy : ev tm yo = some u) : cop X.T tm h o = cappend X.T h [t, t2] v u := by
  unfold cop
  simp only [ho, ccallO, hc, ccallB, ha, COut.of, hx, hy, ht]
theorem pops.append1 {c : Call} {xo yo : Operand} {t t2 e : TypeId} {v x : Value} {b b1 c1 : Nat} {us : List Value} {i : TypeInfo} {z : List Value} (hw : cwant ops tm o = some true) (ho : o.op = .call c) (hc : c.callee = .builtin .append) (ha : c.args.toList = [xo, yo]) (ht : c.argTypes.toList = [t, t2]) (hx : ev tm xo = some v) (hy : ev tm yo = some (.slice (some ⟨b1, 0, none⟩) 1 c1))
    (hd : o.dst = some d) (hl : Nat.ble (d + 1) n = true) (hu : X.T.und t = some (.slice e)) (hi : X.T.info e = some i) (hsz : i.size = 1) (hby : Nat.ble 1 i.bytes = true) (hbb : Nat.ble i.bytes 64 = true) (hz : zeroCellsOf X.T e = some z) (hzl : z.length = 1) (hu2 : isSliceD (X.T.und t2) = true)
    (hwf : h.wf) (hown : Own h v b us) (hx1 : isOne x = true) (hb1 : h.get b1 = some (.cells [x] false false)) (hll : us.length ≤ 1000000)
    (hn : ∀ v' b' h', h'.wf → Chg b h h' → h.n ≤ b' → Own h' v' b' (us ++ [x]) → pops X rnd ops l ⟨n, tm.set v' d, ds, rc⟩ h' Q) : pops X rnd ops (o :: l) ⟨n, tm, ds, rc⟩ h Q := by
  obtain ⟨v', h', b', h1, h2, h3, h4, h5⟩ := append_own (T := X.T) hwf hown hu hi hsz ((nble _ _).1 hby) ((nble _ _).1 hbb) hz hzl hu2 hx1 hb1 hll (t := t) (ty2 := t2) (c1 := c1)
  exact pops.val hw ((cop_append ho hc ha ht hx hy).trans h1) hd hl (hn v' b' h' h2 h3 h4 h5)
theorem pops.makeSlice {t e : TypeId} {lo co : Operand} {k k' : IntKind} {m : Nat} {i : TypeInfo} {z : Value} (hw : cwant ops tm o = some true) (ho : o.op = .makeSlice t lo co) (hlo : ev tm lo = some (.int k (m : Int))) (hco : ev tm co = some (.int k' (m : Int))) (hd : o.dst = some d) (hl : Nat.ble (d + 1) n = true)
    (hu : X.T.und t = some (.slice e)) (hi : X.T.info e = some i) (hsz : i.size = 1) (hbb : Nat.ble i.bytes 64 = true) (hz : zeroCellsOf X.T e = some [z]) (hm : m ≤ 1000000) (hwf : h.wf)
    (hn : ∀ b h', h.n ≤ b → h'.wf → Gr h h' → h'.get b = some (.cells (List.replicate m z) false false) → pops X rnd ops l ⟨n, tm.set (.slice (some ⟨b, 0, none⟩) m m) d, ds, rc⟩ h' Q) : pops X rnd ops (o :: l) ⟨n, tm, ds, rc⟩ h Q := by
  have hrep : ∀ m, repeatL [z] m = List.replicate m z := by
    intro m
    induction m with
    | zero => rfl
    | succ m ih => show [z] ++ repeatL [z] m = _; rw [ih]; rfl
  refine pops.val hw (h' := h.push (.cells (List.replicate m z) false false)) ?_ hd hl (hn h.n _ (Nat.le_refl _) (CH.wf_push hwf _) (Gr.push _ _) (by rw [CH.get_push, if_pos rfl]))
  have hb := (nble _ _).1 hbb
  have hguard : (Nat.beq [z].length i.size && Nat.ble (i.bytes * m) 281474976710656 && Nat.ble m 1000000 && Nat.ble m m && Nat.ble 1 i.size) = true := by
    have h1 : i.bytes * m ≤ 281474976710656 := by
      have : i.bytes * m ≤ 64 * 1000000 := Nat.mul_le_mul hb hm
      omega
    simp [hsz, Nat.ble_eq, h1, hm]
  unfold cop
  simp only [ho, COut.of, hlo, hco, cmakeSlice, hu, natOf_cast, hi, hz, hguard, cond_true, hnew, hrep]
end
def rndP (l : Nat) (Q : Value → CH → Prop) : KP := fun ex a h =>
  ex = .normal ∧ ∃ r, h.get l = some (.loop r) ∧ Q (.bool true) (h.put l (.loop { r with state := .ready, pending := none }))
theorem Rnd.intro {X : Cxt} {l f n : Nat} {tm : PT Value} {assign body : Code} {h : CH} {Q : Value → CH → Prop}
    (hc : Runs X f true assign { n, tm, defers := [], rc := none } h (fun ex a h => ex = .normal ∧ ∃ r, h.get l = some (.loop r) ∧ r.state = .ready ∧ Runs X f true body a (h.put l (.loop { r with state := .busy })) (rndP l Q))) : Rnd X l f n tm assign body h Q := by
  intro e w hR l' x tmps' hl ht c cs
  let b : Frame := { (default : Frame) with fn := f, kind := .normal, roundOf := some l' }
  have hb0 : Frame.round l' f tmps' assign body .normal = b.atR { tmps := tmps', defers := [] } [.code assign, .beginRound, .code body] := by
    simp [Frame.round, Frame.atR, b]
  rw [hb0]
  obtain ⟨ex, a, h1, e1, w1, ra, cs1, g1, g2, g3, g4, g5, g6, g7⟩ := hc e w { tmps := tmps', defers := [] } b [.beginRound, .code body] (c :: cs) (c :: cs) hR ⟨ht, .nil⟩ rfl ⟨rfl, (fun hh => by cases hh), fun hh => by cases hh⟩
  obtain ⟨rfl, r, hg, hrd, hbody⟩ := tt_iff.1 g1
  have hrc : a.rc = none := by
    cases har : a.rc with
    | none => rfl
    | some m => rw [har] at g6; cases g6
  rw [hrc] at g5
  have g5 : cs1 = c :: cs := g5
  subst g5
  obtain ⟨r', q, he, hw, hB, hLR⟩ := g3.obj _ _ hg
  have hl1 := g2 _ _ hl
  rw [hl1] at he
  cases he
  have hR2 : R X.B0 X.w0 e1 (h1.put l (.loop { r with state := .busy })) { w1 with heap := w1.heap.setIfInBounds l' (.loop { q with state := .busy }) } :=
    g3.update hg rfl hl1 (by simp) (fun i hi => by simp only [Array.getElem?_setIfInBounds]; rw [if_neg (by omega)]) rfl rfl rfl
      ⟨l', { q with state := .busy }, hl1, setObj_at hw, hB, ⟨rfl, hLR.pending, hLR.fn, hLR.params, hLR.assign, hLR.body, hLR.tmps⟩⟩
  have hbegin : (Instr.beginRound l').run X.P w1 = .ok () { w1 with heap := w1.heap.setIfInBounds l' (.loop { q with state := .busy }) } := by
    have j1 := getObj_run (P := X.P) hw (by simp)
    have j2 := setObj_run (P := X.P) (q' := .loop { q with state := .busy }) hw (by simp)
    have j3 : q.state = .ready := by rw [hLR.state]; exact hrd
    simp [Instr.beginRound, Instr.getLoop, j1, j2, j3]
  have s1 := stepR_beginRound (P := X.P) (b := b) (a := ra) (k := [.code body]) (cs := c :: cs) rfl hbegin
  obtain ⟨ex2, a2, h2, e2, w2, ra2, cs2, k1, k2, k3, k4, k5, k6, k7⟩ := hbody e1 _ ra b [] (c :: cs) (c :: cs) hR2 g4 (by rw [hrc]; rfl) ⟨rfl, (fun hh => by cases hh), fun hh => by rw [hrc] at hh; cases hh⟩
  have hrc2 : a2.rc = none := by
    rw [hrc] at k6
    cases har : a2.rc with
    | none => rfl
    | some m => rw [har] at k6; cases k6
  rw [hrc2] at k5
  have k5 : cs2 = c :: cs := k5
  subst k5
  have hl2 := k2 _ _ hl1
  have pre : Steps X.P (lone (b.atR { tmps := tmps', defers := [] } [.code assign, .beginRound, .code body]) (c :: cs) w) (lone (b.atR ra [.code body]) (c :: cs) { w1 with heap := w1.heap.setIfInBounds l' (.loop { q with state := .busy }) }) := Steps.trans g7 (.one s1)
  obtain ⟨rfl, r2, hg2, hQ⟩ := tt_iff.1 k1
  have k1 : cend l none h2 (fun r _ h => match r with
    | .ret v => tt (Q v h)
    | _ => false) = true := by
    unfold cend
    rw [hg2]
    exact tt_iff.2 hQ
  obtain ⟨h3, w3, j1, j2, j3⟩ := cend_sound (P := X.P) k1 k3 hl2
  exact ⟨_, h3, e2, w3, _, tt_iff.1 j1, g2.trans k2, j2, .flat rfl, pre.trans (Steps.trans k7 (.one (stepR_round_end rfl rfl j3)))⟩
section
variable {X : Cxt} {fid : FuncId} {a : CAct} {h : CH} {Q : KP}
theorem Runs.rangeFunc {f : Operand} {ps : Array Tmp} {assign body : Code} {gf : FuncId} {gfn : Func} {first cap : Array Value} (hf : ev a.tm f = some (.func (.func gf) first cap)) (hfn : X.T.fn gf = some gfn)
    (hc : CalF X gf (first.toList ++ [.func (.yield (h.n + 1)) #[] #[]] ++ cap.toList) ((h.push (.deferred true)).push (.loop { state := .ready, pending := none, fn := fid, tmps := (tmList a.tm a.n []).toArray, params := ps, assign, body, defers := h.n }))
      fun r h' => (∃ v, r = .ret v) ∧ ∃ r', h'.get (h.n + 1) = some (.loop r') ∧ r'.state ≠ .busy ∧ r'.pending = none ∧ Q .normal { a with defers := { target := .collected h.n, args := #[] } :: a.defers } (h'.put (h.n + 1) (.loop { r' with state := .exhausted }))) :
    Runs X fid false (.rangeFunc f ps assign body) a h Q := by
  refine Runs.of _ ?_
  refine ⟨rfl, ?_⟩
  rw [hf]
  simp only
  unfold crf
  simp only [ccallee, hfn]
  refine tt_iff.2 ?_
  refine hc.mono fun r h' hh => ?_
  obtain ⟨⟨v, rfl⟩, r', h1, h2, h3, h4⟩ := hh
  simp only
  unfold crfEnd
  rw [h1]
  simp only [decide_eq_false h2, cond_false, h3]
  rw [h3] at h4
  exact tt_iff.2 h4
theorem pleave.rd {fn : Func} {n d : Nat} {tm : PT Value} {v : Value} {Q : CRes → CH → Prop} (hd : h.get d = some (.deferred true)) (hv : cresults X.T fn tm (h.put d (.deferred false)) = some v) (hq : Q (.ret v) (h.put d (.deferred false))) : pleave X fn Q .ret ⟨n, tm, [{ target := .collected d, args := #[] }], none⟩ h := by
  unfold pleave
  simp only [kleave, cleave, cleaveD, hd, cleave0, hv]
  exact tt_iff.2 hq
end
section
variable {X : Cxt} {rnd : Bool} {ops : List Oper} {o : Oper} {l : List Oper} {n : Nat} {tm : PT Value} {ds : List Deferred} {rc : Option FrameMode} {h : CH} {Q : KP} {d : Nat}
theorem pops.yield {c : Call} {x : Operand} {yl : Nat} {args : List Value} {r : Loop} (hw : cwant ops tm o = some true) (ho : o.op = .call c) (hc : c.callee = .value x) (hx : ev tm x = some (.func (.yield yl) #[] #[])) (ha : evs tm c.args.toList = some args) (hd : o.dst = some d) (hl : Nat.ble (d + 1) n = true)
    (hg : h.get yl = some (.loop r)) (hlen : args.length = r.params.toList.length)
    (hn : Rnd X yl r.fn r.tmps.toList.length (setArgs r.tmps.toList.length (argsTree r.tmps.toList 0 .nil) (r.params.toList.zip args)) r.assign r.body h fun v h' => pops X rnd ops l ⟨n, tm.set v d, ds, rc⟩ h' Q) : pops X rnd ops (o :: l) ⟨n, tm, ds, rc⟩ h Q := by
  constructor
  show p1 _ _ _ _ _ _ _
  unfold p1
  have hv : cop X.T tm h o = .call (.round yl r.fn r.tmps.toList.length (setArgs r.tmps.toList.length (argsTree r.tmps.toList 0 .nil) (r.params.toList.zip args)) r.assign r.body) := by
    unfold cop
    simp only [ho, ccallO, hc, hx, ha, COut.of, ccallee, hg]
    rw [(nbeq _ _).2 hlen]
    rfl
  simp only [hw, hv, pout]
  intro e w h1 l' x' tmps' h2 h3 c' cs
  obtain ⟨v, h', e', w', v', k1, k2⟩ := hn e w h1 l' x' tmps' h2 h3 c' cs
  refine ⟨v, h', e', w', v', ?_, k2⟩
  show kthenP _ _ _ _ _
  rw [hd, put_mk hl]
  exact .n k1.out
end
end Go.Cx
set_option linter.unusedSimpArgs false
set_option linter.unusedVariables false
namespace Go.Cx
section
variable {X : Cxt} {ops : List Oper} {ms : List OpM} {all : Nat} {Q : KP} {h : CH} {o : Oper} {L n M d : Nat} {tm : PT Value} {ds : List Deferred} {rc : Option FrameMode} {hd : List Held}
theorem pd1.valR (i : Nat) {v : Value} {h' : CH} (hlo : lget ops i = some o) (hr : readyE ops ms 0 L = [(i, o)]) (hw : cwant ops tm o = some true) (hv : cop X.T tm h o = .val v h') (hd' : o.dst = some d) (hl : Nat.ble (d + 1) n = true)
    (hk : ∃ held, Reck X.T (maskOf ms i) h' hd held ∧ PG X ops ms all M Q ops ms 0 ⟨Nat.lor L (2 ^ i), ⟨n, tm.set v d, ds, rc⟩, held⟩ h') : pd1 X ops ms all (pdg X ops ms all Q (M + 1)) ⟨L, ⟨n, tm, ds, rc⟩, hd⟩ h Q := by
  obtain ⟨held, h1, h2⟩ := hk
  exact pd1.val hr hw hd' hl hv h1 h2
theorem pd1.buildSlice (i : Nat) {t : TypeId} {len : Nat} {parts : Array (Nat × Operand)} {cs : List Value} (hlo : lget ops i = some o) (hr : readyE ops ms 0 L = [(i, o)]) (hw : cwant ops tm o = some true) (ho : o.op = .buildSlice t len parts) (hv : cbuildSlice X.T tm h t len parts.toList = hnew h (.cells cs false false) fun b => .slice (some ⟨b, 0, none⟩) len len) (hd' : o.dst = some d) (hl : Nat.ble (d + 1) n = true) (hwf : h.wf)
    (hk : ∀ b h', h.n ≤ b → h'.wf → Gr h h' → h'.get b = some (.cells cs false false) → ∃ held, Reck X.T (maskOf ms i) h' hd held ∧ PG X ops ms all M Q ops ms 0 ⟨Nat.lor L (2 ^ i), ⟨n, tm.set (.slice (some ⟨b, 0, none⟩) len len) d, ds, rc⟩, held⟩ h') : pd1 X ops ms all (pdg X ops ms all Q (M + 1)) ⟨L, ⟨n, tm, ds, rc⟩, hd⟩ h Q :=
  pd1.valR i (h' := h.push (.cells cs false false)) hlo hr hw (by unfold cop; simp only [ho, hv, hnew]) hd' hl (hk h.n _ (Nat.le_refl _) (CH.wf_push hwf _) (Gr.push _ _) (by rw [CH.get_push, if_pos rfl]))
theorem pd1.append1 (i : Nat) {c : Call} {xo yo : Operand} {t t2 e : TypeId} {v x : Value} {b b1 c1 : Nat} {us : List Value} {inf : TypeInfo} {z : List Value} (hlo : lget ops i = some o) (hr : readyE ops ms 0 L = [(i, o)]) (hw : cwant ops tm o = some true) (ho : o.op = .call c) (hc : c.callee = .builtin .append) (ha : c.args.toList = [xo, yo]) (ht : c.argTypes.toList = [t, t2]) (hx : ev tm xo = some v) (hy : ev tm yo = some (.slice (some ⟨b1, 0, none⟩) 1 c1))
    (hd' : o.dst = some d) (hl : Nat.ble (d + 1) n = true) (hu : X.T.und t = some (.slice e)) (hi : X.T.info e = some inf) (hsz : inf.size = 1) (hby : Nat.ble 1 inf.bytes = true) (hbb : Nat.ble inf.bytes 64 = true) (hz : zeroCellsOf X.T e = some z) (hzl : z.length = 1) (hu2 : isSliceD (X.T.und t2) = true)
    (hwf : h.wf) (hown : Own h v b us) (hx1 : isOne x = true) (hb1 : h.get b1 = some (.cells [x] false false)) (hll : us.length ≤ 1000000)
    (hk : ∀ v' b' h', h'.wf → Chg b h h' → h.n ≤ b' → Own h' v' b' (us ++ [x]) → ∃ held, Reck X.T (maskOf ms i) h' hd held ∧ PG X ops ms all M Q ops ms 0 ⟨Nat.lor L (2 ^ i), ⟨n, tm.set v' d, ds, rc⟩, held⟩ h') : pd1 X ops ms all (pdg X ops ms all Q (M + 1)) ⟨L, ⟨n, tm, ds, rc⟩, hd⟩ h Q := by
  obtain ⟨v', h', b', h1, h2, h3, h4, h5⟩ := append_own (T := X.T) hwf hown hu hi hsz ((nble _ _).1 hby) ((nble _ _).1 hbb) hz hzl hu2 hx1 hb1 hll (t := t) (ty2 := t2) (c1 := c1)
  exact pd1.valR i hlo hr hw ((cop_append ho hc ha ht hx hy).trans h1) hd' hl (hk v' b' h' h2 h3 h4 h5)
theorem pd1.val0 {M : Nat} {v : Value} {h' : CH} {i : Nat} (hr : readyE ops ms 0 L = [(i, o)]) (hw : cwant ops tm o = some true) (hd' : o.dst = none) (hv : cop X.T tm h o = .val v h') {held : List Held} (hk : Reck X.T (maskOf ms i) h' hd held)
    (hq : PG X ops ms all M Q ops ms 0 ⟨Nat.lor L (2 ^ i), ⟨n, tm, ds, rc⟩, held⟩ h') : pd1 X ops ms all (pdg X ops ms all Q (M + 1)) ⟨L, ⟨n, tm, ds, rc⟩, hd⟩ h Q := by
  refine pd1.one hr ?_
  unfold p1e
  simp only [hw, hv]
  refine ⟨held, hk, ?_⟩
  rw [hd']
  exact hq
theorem pd1.store (i : Nat) {t : TypeId} {x y : Operand} {u : Value} {b off s : Nat} {cs cs' us : List Value} (hlo : lget ops i = some o) (hr : readyE ops ms 0 L = [(i, o)]) (hw : cwant ops tm o = some true) (ho : o.op = .store t x y) (hx : ev tm x = some (.pointer (some ⟨b, off, none⟩))) (hy : ev tm y = some u) (hd' : o.dst = none)
    (hg : h.get b = some (.cells cs false false)) (hs : X.T.size t = some s) (hus : u.cells.toList = us) (hlen : (Nat.beq us.length s && us.all isOne) = true) (hsp : lsplice us cs off = some cs') (hwf : h.wf)
    (hk : ∀ h', h'.wf → Upd b h h' → h'.get b = some (.cells cs' false false) → ∃ held, Reck X.T (maskOf ms i) h' hd held ∧ PG X ops ms all M Q ops ms 0 ⟨Nat.lor L (2 ^ i), ⟨n, tm, ds, rc⟩, held⟩ h') : pd1 X ops ms all (pdg X ops ms all Q (M + 1)) ⟨L, ⟨n, tm, ds, rc⟩, hd⟩ h Q := by
  subst hus
  obtain ⟨held, h1, h2⟩ := hk _ (CH.wf_put hwf hg) (Upd.put b (.cells cs' false false)) (by rw [CH.get_put, if_pos rfl])
  refine pd1.val0 hr hw hd' (v := undefV) ?_ h1 h2
  unfold cop
  simp only [ho, COut.of, hx, hy, cstore, ptrOf, hs, wrow, hg, hlen, cond_true, hsp]
theorem pd1.callR (i : Nat) {c : Call} {f : FuncId} {fn : Func} {first cap : Array Value} {args ar : List Value} {x : Operand} (hlo : lget ops i = some o) (hr : readyE ops ms 0 L = [(i, o)]) (hw : cwant ops tm o = some true) (ho : o.op = .call c) (hc : c.callee = .value x) (hx : ev tm x = some (.func (.func f) first cap)) (ha : evs tm c.args.toList = some args) (hf : X.T.fn f = some fn)
    (hd' : o.dst = some d) (hl : Nat.ble (d + 1) n = true) (hall : first.toList ++ args ++ cap.toList = ar)
    (hn : CalF X f ar h fun r h' => ∃ v, r = .ret v ∧ ∃ held, Reck X.T (maskOf ms i) h' hd held ∧ PG X ops ms all M Q ops ms 0 ⟨Nat.lor L (2 ^ i), ⟨n, tm.set v d, ds, rc⟩, held⟩ h') : pd1 X ops ms all (pdg X ops ms all Q (M + 1)) ⟨L, ⟨n, tm, ds, rc⟩, hd⟩ h Q := by
  subst hall
  exact pd1.call hr hw hd' hl (by unfold cop; simp only [ho, ccallO, hc, hx, ha, COut.of, ccallee, hf]) hn
end
theorem Sl.readG {T : Tab} {t ts : TypeId} {h : CH} {v : Value} {vs : List Value} (hs : Sl T t h v vs) (hwf : h.wf) (hu : T.und ts = some (.slice t)) {i : Nat} {x : Value} (hx : vs[i]? = some x) (k : IntKind) :
    ∃ p, cindexAddr T ts v (.int k (i : Int)) = some p ∧ ∀ h', Gr h h' → cload T h' t p = some x := by
  obtain ⟨b, o, h1, h2⟩ := hs.at hu hx k
  obtain ⟨hl, a, c, rfl, h3⟩ := hs
  obtain ⟨b', o', cs, ro, fz, s, k1, k2, k3, k4⟩ := h3 i x hx
  refine ⟨_, h1, fun h' g => h2 h' ?_⟩
  have hlt : i < vs.length := (List.getElem?_eq_some_iff.1 hx).1
  have : b = b' := by
    subst k1
    unfold cindexAddr at h1
    rw [hu] at h1
    simp only [Option.bind_some, rowOf, natOf_cast, k2] at h1
    rw [(nble _ _).2 hlt] at h1
    simp at h1
    exact h1.1.symm
  subst this
  exact ⟨cs, ro, fz, k3, g.get b (CH.lt hwf k3)⟩
theorem SlA.readG {α : Type} {S : Value → α → Prop} {T : Tab} {t ts : TypeId} {h : CH} {v : Value} {l : List α} (hs : SlA T t S h v l) (hwf : h.wf) (hu : T.und ts = some (.slice t)) {i : Nat} {x : α} (hx : l[i]? = some x) (k : IntKind) :
    ∃ p u, cindexAddr T ts v (.int k (i : Int)) = some p ∧ S u x ∧ ∀ h', Gr h h' → cload T h' t p = some u := by
  obtain ⟨vs, h1, h2, h3⟩ := hs
  obtain ⟨u, h4, h5⟩ := h3 i x hx
  obtain ⟨p, h6, h7⟩ := h1.readG hwf hu h4 k
  exact ⟨p, u, h6, h5, h7⟩
theorem Sl.readM {α : Type} {f : α → Value} {T : Tab} {t ts : TypeId} {h : CH} {v : Value} {l : List α} (hs : Sl T t h v (l.map f)) (hwf : h.wf) (hu : T.und ts = some (.slice t)) {i : Nat} {x : α} (hx : l[i]? = some x) (k : IntKind) :
    ∃ p, cindexAddr T ts v (.int k (i : Int)) = some p ∧ ∀ h', Gr h h' → cload T h' t p = some (f x) := hs.readG hwf hu (by rw [List.getElem?_map, hx]; rfl) k
def stepTo (nx : List (List Int)) (s c : Nat) : Nat := (((nx[s]?).bind fun r => r[c]?).getD 0).toNat
def st (nx : List (List Int)) (l : List Int) : Nat → Nat
  | 0 => 0
  | i + 1 => stepTo nx (st nx l i) (l.getD i 0).toNat
def rst (nx : List (List Int)) (l : List Int) : Nat → Nat
  | 0 => 0
  | k + 1 => stepTo nx (rst nx l k) (l.getD (l.length - 1 - k) 0).toNat
def leftS (t : TabD) (l : List Int) : List Int := (List.range (l.length + 1)).map fun i => (st t.left.next l i : Int)
def rightS (t : TabD) (l : List Int) : List Int := (List.range (l.length + 1)).map fun i => (rst t.right.next l (l.length - i) : Int)
def UsableP (t : TabD) (l : List Int) : Prop := ValidP t ∧ ∀ c, c ∈ l → 0 ≤ c ∧ c < (t.classes.length : Int)
theorem stepTo_ok {a : AutD} {classes rules : Nat} (hS : ShapeP a classes rules) {s c : Nat} (hs : s < a.next.length) (hc : c < classes) : stepTo a.next s c < a.next.length ∧ ∃ r, a.next[s]? = some r ∧ r[c]? = some (stepTo a.next s c : Int) := by
  obtain ⟨r, hr⟩ : ∃ r, a.next[s]? = some r := ⟨_, List.getElem?_eq_getElem hs⟩
  obtain ⟨h1, h2⟩ := (hS.2.2.2 s hs).1 r hr
  obtain ⟨x, hx⟩ : ∃ x, r[c]? = some x := ⟨_, List.getElem?_eq_getElem (by omega)⟩
  have := h2 x (List.mem_of_getElem? hx)
  have e : stepTo a.next s c = x.toNat := by unfold stepTo; rw [hr]; simp only [Option.bind_some, hx, Option.getD_some]
  refine ⟨by omega, r, hr, ?_⟩
  rw [hx, e]
  congr 1
  omega
theorem st_ok {a : AutD} {classes rules : Nat} (hS : ShapeP a classes rules) {l : List Int} (hl : ∀ c, c ∈ l → 0 ≤ c ∧ c < (classes : Int)) : ∀ i, i ≤ l.length → st a.next l i < a.next.length
  | 0, _ => hS.1
  | i + 1, hi => by
    have h1 := hl (l.getD i 0) (by rw [List.getD_eq_getElem?_getD, List.getElem?_eq_getElem hi]; exact List.getElem_mem hi)
    exact (stepTo_ok hS (st_ok hS hl i (by omega)) (by omega)).1
theorem rst_ok {a : AutD} {classes rules : Nat} (hS : ShapeP a classes rules) {l : List Int} (hl : ∀ c, c ∈ l → 0 ≤ c ∧ c < (classes : Int)) : ∀ k, k ≤ l.length → rst a.next l k < a.next.length
  | 0, _ => hS.1
  | k + 1, hi => by
    have h1 := hl (l.getD (l.length - 1 - k) 0) (by rw [List.getD_eq_getElem?_getD, List.getElem?_eq_getElem (by omega)]; exact List.getElem_mem (by omega))
    exact (stepTo_ok hS (rst_ok hS hl k (by omega)) (by omega)).1
end Go.Cx
set_option linter.unusedSimpArgs false
set_option linter.unusedVariables false
namespace Go.Cx
theorem Rnd.monoW {X : Cxt} {l f n : Nat} {tm : PT Value} {as_ bd : Code} {h : CH} {Q Q' : Value → CH → Prop} (hf : Rnd X l f n tm as_ bd h Q) (hq : ∀ v h, h.wf → Q v h → Q' v h) : Rnd X l f n tm as_ bd h Q' := by
  intro e w hR l' x tmps' hl ht c cs
  obtain ⟨v, h', e', w', v', k1, k2, k3, k4⟩ := hf e w hR l' x tmps' hl ht c cs
  exact ⟨v, h', e', w', v', hq _ _ k3.hdom k1, k2, k3, k4⟩
theorem lsplice_one {α : Type} (x : α) : ∀ (l : List α) (i : Nat), i < l.length → lsplice [x] l i = some (l.set i x)
  | [], i, h => by simp at h
  | y :: l, 0, h => rfl
  | y :: l, i + 1, h => by
    show (lsplice [x] l i).map (y :: ·) = _
    rw [lsplice_one x l i (by simpa using h)]
    rfl
theorem indexAddr_one {T : Tab} {t el : TypeId} {b o len c : Nat} {k : IntKind} {i : Nat} (hu : T.und t = some (.slice el)) (hs : T.size el = some 1) (hi : i < len) : cindexAddr T t (.slice (some ⟨b, o, none⟩) len c) (.int k (i : Int)) = some (.pointer (some ⟨b, o + i, none⟩)) := by
  unfold cindexAddr
  rw [hu]
  simp only [Option.bind_some, rowOf, natOf_cast, hs]
  rw [(nble _ _).2 hi]
  simp
theorem CH.put_get {h : CH} {b c : Nat} {o : CObj} (hne : c ≠ b) : (h.put b o).get c = h.get c := by rw [CH.get_put, if_neg hne]
theorem CH.put_self {h : CH} {b : Nat} {o : CObj} : (h.put b o).get b = some o := by rw [CH.get_put, if_pos rfl]
theorem Sl.part {T : Tab} {t : TypeId} {h : CH} {a : Option Addr} {n c c' s : Nat} {vs : List Value} (hs : Sl T t h (.slice a n c) vs) (hsz : T.size t = some s) {lo hi : Nat} (hlo : lo ≤ hi) (hhi : hi ≤ vs.length) {a' : Option Addr} (ha : ∀ b o, a = some ⟨b, o, none⟩ → lo < hi → a' = some ⟨b, o + lo * s, none⟩) :
    Sl T t h (.slice a' (hi - lo) c') ((vs.take hi).drop lo) := by
  obtain ⟨hl, a0, c0, h1, h2⟩ := hs
  cases h1
  refine ⟨by simp; omega, a', c', by simp [Nat.min_eq_left hhi], fun i x hx => ?_⟩
  rw [List.getElem?_drop, List.getElem?_take] at hx
  split at hx
  · rename_i hlt
    obtain ⟨b, o, cs, ro, fz, s', k1, k2, k3, k4⟩ := h2 _ x hx
    rw [hsz] at k2
    cases k2
    refine ⟨b, o + lo * s, cs, ro, fz, s, ha b o k1 (by omega), hsz, k3, ?_⟩
    rw [Nat.add_assoc, ← Nat.add_mul]
    exact k4
  · cases hx
theorem Reck.dropI {T : Tab} {B : Nat} {h : CH} {i : Nat} {o : Oper} {tm : PT Value} {v : Value} {r r' : List Held} (hb : tb B i = true) (hr : Reck T B h r r') : Reck T B h (⟨i, o, tm, v⟩ :: r) r' := .drop hb hr
end Go.Cx
set_option linter.unusedSimpArgs false
set_option linter.unusedVariables false
namespace Go.Cx
theorem Runs.rangeFuncG {X : Cxt} {fid : FuncId} {a : CAct} {h : CH} {Q : KP} {f : Operand} {ps : Array Tmp} {assign body : Code} {gf : FuncId} {gfn : Func} {first cap : Array Value} {al : List Value} (hf : ev a.tm f = some (.func (.func gf) first cap)) (hfn : X.T.fn gf = some gfn) (hal : first.toList ++ [.func (.yield (h.n + 1)) #[] #[]] ++ cap.toList = al)
    (hc : ∀ (r0 : Loop) (hx : CH), r0 = { state := .ready, pending := none, fn := fid, tmps := (tmList a.tm a.n []).toArray, params := ps, assign, body, defers := h.n } → hx = (h.push (.deferred true)).push (.loop r0) → CalF X gf al hx
      fun r h' => (∃ v, r = .ret v) ∧ h'.get (h.n + 1) = some (.loop r0) ∧ Q .normal { a with defers := { target := .collected h.n, args := #[] } :: a.defers } (h'.put (h.n + 1) (.loop { r0 with state := .exhausted }))) :
    Runs X fid false (.rangeFunc f ps assign body) a h Q := by
  subst hal
  refine Runs.rangeFunc hf hfn ((hc _ _ rfl rfl).mono fun r h' hh => ?_)
  exact ⟨hh.1, _, hh.2.1, by simp, rfl, hh.2.2⟩
structure RJ (h1 : CH) (bs bo bb d lid : Nat) (r0 : Loop) (vl : Value) (len : Nat) (row : List Value) (h' : CH) : Prop where
  g : Gr h1 h'
  hbs : h'.get bs = some (.cells row false false)
  hbo : h'.get bo = some (.cells [.slice (some ⟨bs, 0, none⟩) len len] false false)
  hbb : h'.get bb = some (.cells [vl] false false)
  hd : h'.get d = some (.deferred true)
  hlid : h'.get lid = some (.loop r0)
theorem RJ.step {h1 : CH} {bs bo bb d lid : Nat} {r0 r1 : Loop} {vl : Value} {len : Nat} {row row' : List Value} {h' h3 : CH} (hj : RJ h1 bs bo bb d lid r0 vl len row h') (o1 : h1.n ≤ bs) (o2 : bs < bo) (o3 : bo < bb) (o4 : bb < d) (o5 : d < lid)
    (u : Upd bs (h'.put lid (.loop r1)) h3) (hb : h3.get bs = some (.cells row' false false)) : RJ h1 bs bo bb d lid r0 vl len row' (h3.put lid (.loop r0)) := by
  have key : ∀ c, c ≠ lid → c ≠ bs → (h3.put lid (.loop r0)).get c = h'.get c := fun c h1 h2 => by rw [CH.put_get h1, u.get c h2, CH.put_get h1]
  refine ⟨((hj.g.put (by omega) _).upd o1 u).put (by omega) _, ?_, ?_, ?_, ?_, CH.put_self⟩
  · rw [CH.put_get (by omega)]; exact hb
  · rw [key _ (by omega) (by omega)]; exact hj.hbo
  · rw [key _ (by omega) (by omega)]; exact hj.hbb
  · rw [key _ (by omega) (by omega)]; exact hj.hd
def rowM (f : Nat → Nat) (n m : Nat) : List Value := (List.range (n + 1)).map fun i => Value.int .i64 (if i < m then 0 else (f (n - i) : Int))
theorem rowM_length (f : Nat → Nat) (n m : Nat) : (rowM f n m).length = n + 1 := by simp [rowM]
theorem rowM_init (f : Nat → Nat) (n : Nat) (h0 : f 0 = 0) : rowM f n n = List.replicate (n + 1) (.int .i64 0) := by
  apply List.ext_getElem?
  intro i
  rw [rowM, List.getElem?_map, List.getElem?_replicate]
  by_cases hi : i < n + 1
  · rw [List.getElem?_range hi, if_pos hi]
    simp only [Option.map_some]
    by_cases h1 : i < n
    · rw [if_pos h1]
    · rw [if_neg h1, show n - i = 0 by omega, h0]; rfl
  · rw [if_neg hi, List.getElem?_eq_none (by simp; omega)]; rfl
theorem rowM_get (f : Nat → Nat) (n m i : Nat) (hi : i ≤ n) (hm : m ≤ i) : (rowM f n m)[i]? = some (.int .i64 (f (n - i) : Int)) := by
  rw [rowM, List.getElem?_map, List.getElem?_range (by omega)]
  simp only [Option.map_some]
  rw [if_neg (by omega)]
theorem rowM_step (f : Nat → Nat) (n j : Nat) (hj : j < n) : (rowM f n (j + 1)).set j (.int .i64 (f (n - j) : Int)) = rowM f n j := by
  apply List.ext_getElem?
  intro i
  rw [List.getElem?_set]
  simp only [rowM_length]
  by_cases h1 : j = i
  · subst h1
    rw [if_pos rfl, if_pos (by omega), rowM_get f n j j (by omega) (Nat.le_refl _)]
  · rw [if_neg h1, rowM, rowM, List.getElem?_map, List.getElem?_map]
    by_cases h2 : i < n + 1
    · rw [List.getElem?_range h2]
      simp only [Option.map_some]
      by_cases h3 : i < j
      · rw [if_pos (by omega), if_pos h3]
      · rw [if_neg (by omega), if_neg h3]
    · rw [List.getElem?_eq_none (by simp; omega)]; rfl
theorem rightS_row (t : TabD) (l : List Int) : rowM (rst t.right.next l) l.length 0 = (rightS t l).map (Value.int .i64) := by
  unfold rowM rightS
  rw [List.map_map]
  apply List.map_congr_left
  intro i _
  simp
end Go.Cx
set_option linter.unusedSimpArgs false
set_option linter.unusedVariables false
namespace Go.Cx
theorem find_first {α : Type} {p : α → Bool} : ∀ {l : List α} {i : Nat} {x : α}, (∀ (j : Nat) y, j < i → l[j]? = some y → p y = false) → l[i]? = some x → p x = true → l.find? p = some x
  | [], i, x, _, hx, _ => by simp at hx
  | y :: l, 0, x, _, hx, hp => by
    cases hx
    simp [hp]
  | y :: l, i + 1, x, h, hx, hp => by
    have h0 := h 0 y (Nat.succ_pos i) rfl
    rw [List.find?_cons, h0]
    exact find_first (i := i) (fun j z hj hz => h (j + 1) z (by omega) (by simpa using hz)) (by simpa using hx) hp
theorem find_no {α : Type} {p : α → Bool} {l : List α} (h : ∀ y, y ∈ l → p y = false) : l.find? p = none := by
  rw [List.find?_eq_none]
  intro y hy
  rw [h y hy]
  decide
def rowL (m : List (List Int)) (s : Nat) : List Int := (m[s]?).getD []
def actOf (t : TabD) (x : Int) : Int := (t.actions[x.toNat]?).getD 0
def decS (t : TabD) (s u : Nat) : Int × Int :=
  match (rowL t.left.marks s).find? fun x => decide (x ∈ rowL t.right.marks u) with
  | some x => (actOf t x, x)
  | none => (2, -1)
noncomputable def LeftR (t : TabD) (l : List Int) : List Int := cond (tt (UsableP t l)) (leftS t l) []
noncomputable def RightR (t : TabD) (l : List Int) : List Int := cond (tt (UsableP t l)) (rightS t l) []
noncomputable def DecideR (t : TabD) (l : List Int) (at_ : Int) : Int × Int :=
  cond (tt (0 ≤ at_ ∧ at_ ≤ (l.length : Int) ∧ UsableP t l)) (decS t (st t.left.next l at_.toNat) (rst t.right.next l (l.length - at_.toNat))) (2, -1)
noncomputable def ActionsR (t : TabD) (l : List Int) : List Int :=
  cond (tt (UsableP t l)) ((List.range (l.length + 1)).map fun i => (decS t (st t.left.next l i) (rst t.right.next l (l.length - i))).1) []
theorem leftS_length (t : TabD) (l : List Int) : (leftS t l).length = l.length + 1 := by simp [leftS]
theorem leftS_get {t : TabD} {l : List Int} {i : Nat} (hi : i ≤ l.length) : (leftS t l)[i]? = some (st t.left.next l i : Int) := by
  unfold leftS
  rw [List.getElem?_map, List.getElem?_range (by omega)]
  rfl
theorem rightS_get {t : TabD} {l : List Int} {i : Nat} (hi : i ≤ l.length) : (rightS t l)[i]? = some (rst t.right.next l (l.length - i) : Int) := by
  unfold rightS
  rw [List.getElem?_map, List.getElem?_range (by omega)]
  rfl
theorem mark_ok {a : AutD} {classes rules : Nat} (hS : ShapeP a classes rules) {s : Nat} (hs : s < a.next.length) : ∃ m, a.marks[s]? = some m ∧ rowL a.marks s = m ∧ ∀ x, x ∈ m → 0 ≤ x ∧ x < (rules : Int) := by
  obtain ⟨m, hm⟩ : ∃ m, a.marks[s]? = some m := ⟨_, List.getElem?_eq_getElem (by have := hS.2.2.1; omega)⟩
  refine ⟨m, hm, by unfold rowL; rw [hm]; rfl, fun x hx => ?_⟩
  obtain ⟨k, hk⟩ := List.mem_iff_getElem?.1 hx
  have := (hS.2.2.2 s hs).2 m hm k x hk
  exact ⟨this.1, this.2.1⟩
theorem act_ok {t : TabD} {x : Int} (h0 : 0 ≤ x) (h1 : x < (t.actions.length : Int)) : t.actions[x.toNat]? = some (actOf t x) := by
  unfold actOf
  rw [List.getElem?_eq_getElem (by omega)]
  rfl
theorem eq_of_get {a b : List Int} (hl : a.length = b.length) (h : ∀ (j : Nat), j < a.length → a[j]? = b[j]?) : a = b := by
  apply List.ext_getElem? 
  intro i
  rcases Nat.lt_or_ge i a.length with h1 | h1
  · exact h i h1
  · rw [List.getElem?_eq_none h1, List.getElem?_eq_none (by omega)]
end Go.Cx
set_option linter.unusedSimpArgs false
set_option linter.unusedVariables false
namespace Go.Cx
theorem PG.startA {X : Cxt} {Q : KP} {h : CH} {fid : FuncId} {rnd : Bool} {id : Nat} {ops : Array Oper} {a : CAct} (N all : Nat) (ms : List OpM) (hN : ops.size = N) (ha : 2 ^ N - 1 = all) (hm : opMs ops.toList ops.toList [] = ms) (hp : pairsOk ms ms 0 = true)
    (hn : PG X ops.toList ms all N Q ops.toList ms 0 { listed := 0, a, held := [] } h) : Runs X fid rnd (.region id ops true) a h Q := by
  subst hN ha
  exact PG.start ms hm hp hn
theorem pd1.finA {X : Cxt} {ops : List Oper} {ms : List OpM} {all L : Nat} {Q : KP} {h : CH} {a : CAct} {hd : List Held} {next : Stage → CH → Prop} (hr : readyE ops ms 0 L = []) (ha : Nat.beq L all = true) (hq : Q .normal a h) : pd1 X ops ms all next ⟨L, a, hd⟩ h Q := pd1.fin hr ha hq
section
variable {H : Type} {P : Program} {T : Tab}
theorem notAgg_slice {w : World} {r : Reach} {base : Nat} {t e : TypeId} {v : Value} (hu : P.underlying t = some (.slice e)) (hv : Value.okWide P w r base t v) : ∀ a, v ≠ .agg a := by
  rintro a rfl
  simp [Value.okWide, hu, Cell.okWide, Cell.ok] at hv
theorem ints_arg {h : CH} {t el : TypeId} {cv : Value} {d : DataW H} (hu : T.und t = some (.slice el)) (hs : T.size el = some 1) (hue : T.und el = some (.int .i64)) (hn : ∀ a, cv ≠ .agg a) (hh : Has T h t cv.cells.toList d) : ∃ l, SlI T el h cv l := by
  rw [cells_one hn] at hh
  obtain ⟨v, l, h1, _, h2⟩ := ints_of hu hs hue hh
  have : cv = v := by simpa using h1
  exact ⟨l, this ▸ h2⟩
end
end Go.Cx
set_option linter.unusedSimpArgs false
set_option linter.unusedVariables false
namespace Go.Cx
def CapOk (v : Value) (s : Nat) : Prop := v = .slice none 0 0 ∨ ∃ b o n c, v = .slice (some ⟨b, o, none⟩) n c ∧ ((n ≤ c ∧ c < unk) ∨ c = unk + s)
theorem Own.cap {h : CH} {v : Value} {b : Nat} {l : List Value} (ho : Own h v b l) (hl : l.length ≤ 1000000) : CapOk v 1 := by
  rcases ho with ⟨_, rfl⟩ | ⟨c, rfl, _, rfl | rfl⟩
  · exact .inl rfl
  · exact .inr ⟨b, 0, _, _, rfl, .inl ⟨Nat.le_refl _, by unfold unk; omega⟩⟩
  · exact .inr ⟨b, 0, _, _, rfl, .inr rfl⟩
theorem okB {n l h : Nat} (h1 : l ≤ h) (h2 : h ≤ n) : okBounds n l h = true := by
  unfold okBounds
  simp [Nat.ble_eq, h1, h2]
theorem cslice_to {T : Tab} {tm : PT Value} {t e : TypeId} {v : Value} {vs : List Value} {h : CH} {lo hi : Option Operand} {l u : Nat} (hs : Sl T e h v vs) (hu : T.und t = some (.slice e)) (hsz : T.size e = some 1) (hc : CapOk v 1) (hlo : cbound tm 0 lo = some l) (hhi : cbound tm vs.length hi = some u) (h1 : l ≤ u) (h2 : u ≤ vs.length) :
    ∃ v', cslice T tm t v lo hi none = some v' ∧ Sl T e h v' ((vs.take u).drop l) := by
  have hs0 := hs
  obtain ⟨hl, a, c, rfl, _⟩ := hs
  unfold cslice
  simp only [hu, hsz, Option.bind_some]
  rcases hc with hc | ⟨b, o, n, c', hv, hcap⟩
  · simp only [Value.slice.injEq] at hc
    obtain ⟨rfl, hn, rfl⟩ := hc
    have hlu : l = 0 ∧ u = 0 := by omega
    obtain ⟨rfl, rfl⟩ := hlu
    refine ⟨.slice none 0 0, ?_, ?_⟩
    · rw [(nble 1 1).2 (Nat.le_refl 1)]
      simp only [cond_true, csliceV]
      rw [(nble_ff unk 0).2 (by unfold unk; omega)]
      simp only [cond_false, csliceK, hlo, hhi, Option.bind_some]
      rw [okB (Nat.le_refl 0) (Nat.zero_le _)]
      rfl
    · simp only [List.take_zero, List.drop_zero]
      exact ⟨by simp, none, 0, rfl, fun i x hx => by simp at hx⟩
  · simp only [Value.slice.injEq] at hv
    obtain ⟨rfl, rfl, rfl⟩ := hv
    rw [(nble 1 1).2 (Nat.le_refl 1)]
    simp only [cond_true, csliceV]
    rcases hcap with ⟨hc1, hc2⟩ | rfl
    · rw [(nble_ff unk c).2 (by omega)]
      simp only [cond_false, csliceK, hlo, hhi, Option.bind_some]
      rw [okB h1 (by omega)]
      simp only [cond_true, subAddr]
      refine ⟨_, rfl, hs0.part hsz h1 h2 fun b' o' hb hlt => ?_⟩
      cases hb
      have : Nat.beq c l = false := (nbeq_ff _ _).2 (by omega)
      rw [this]
      rfl
    · rw [(nble unk (unk + 1)).2 (by omega)]
      simp only [cond_true, csliceU, hlo, hhi, Option.bind_some]
      rw [okB h1 h2, Nat.beq_refl]
      refine ⟨_, rfl, hs0.part hsz h1 h2 fun b' o' hb _ => ?_⟩
      cases hb
      rfl
theorem PG.slice {X : Cxt} {ops : List Oper} {ms : List OpM} {all N : Nat} {Q : KP} {l : List Oper} {lm : List OpM} {i : Nat} {h : CH} {o : Oper} {m : OpM} {L n d : Nat} {tm : PT Value} {ds : List Deferred} {rc : Option FrameMode} {hd : List Held} {t e : TypeId} {x : Operand} {lo hi : Option Operand} {v : Value} {vs : List Value} {l0 u0 : Nat}
    (hc : (!tb L i && floatOp o.op && depsIn m.deps L) = true) (hw : cwant ops tm o = some true) (ho : o.op = .slice t x lo hi none) (hx : ev tm x = some v) (hd' : o.dst = some d) (hl : Nat.ble (d + 1) n = true)
    (hs : Sl X.T e h v vs) (hu : X.T.und t = some (.slice e)) (hsz : X.T.size e = some 1) (hcap : CapOk v 1) (hlo : cbound tm 0 lo = some l0) (hhi : cbound tm vs.length hi = some u0) (h1 : l0 ≤ u0) (h2 : u0 ≤ vs.length)
    (hn : ∀ v', Sl X.T e h v' ((vs.take u0).drop l0) → PG X ops ms all N Q l lm (i + 1) ⟨Nat.lor L (2 ^ i), ⟨n, tm.set v' d, ds, rc⟩, ⟨i, o, tm, v'⟩ :: hd⟩ h) : PG X ops ms all N Q (o :: l) (m :: lm) i ⟨L, ⟨n, tm, ds, rc⟩, hd⟩ h := by
  obtain ⟨v', h3, h4⟩ := cslice_to (tm := tm) hs hu hsz hcap hlo hhi h1 h2
  exact PG.take hc hw hd' hl (by unfold cfl; simp only [ho, hx, Option.bind_some, h3]) (hn v' h4)
theorem Reck.inc {T : Tab} {B : Nat} {h : CH} {q : Held} {r r' : List Held} {t yt : TypeId} {x : Operand} {i : Nat} (ho : q.o.op = .binOp .add t x (.const (.int .i64 1)) yt) (hx : ev q.tm x = some (.int .i64 (i : Int))) (hv : q.v = .int .i64 ((i + 1 : Nat) : Int)) (hi : i + 1 < 9223372036854775808) (hr : Reck T B h r r') : Reck T B h (q :: r) (q :: r') :=
  .same (by
    unfold cfl
    simp only [ho, hx, Option.bind_some]
    rw [hv]
    exact cbin_inc (T := T) (h := h) (t := t) (xo := x) (yo := .const (.int .i64 1)) hi) hr
theorem UsableP.take {t : TabD} {l : List Int} {k : Nat} (h : UsableP t l) : UsableP t (l.take k) := ⟨h.1, fun c hc => h.2 c (List.mem_of_mem_take hc)⟩
theorem UsableP.drop {t : TabD} {l : List Int} {k : Nat} (h : UsableP t l) : UsableP t (l.drop k) := ⟨h.1, fun c hc => h.2 c (List.mem_of_mem_drop hc)⟩
end Go.Cx
set_option linter.unusedSimpArgs false
set_option linter.unusedVariables false
namespace Go.Cx
inductive Pat where
  | mk (kind : Int) (classes : List Int) (subs : List Pat)
def Pat.kind : Pat → Int
  | .mk k _ _ => k
def Pat.classes : Pat → List Int
  | .mk _ c _ => c
structure PTys where
  int : TypeId
  pat : TypeId
inductive PatV (T : Tab) (k : PTys) (h : CH) : Value → Pat → Prop
  | mk {kind : Int} {c s : Value} {cls : List Int} {ps : List Pat} {vs : List Value} {u : Nat → Value} (oc : isOne c = true) (os : isOne s = true) (hc : SlI T k.int h c cls) (hs : Sl T k.pat h s vs) (hlen : vs.length = ps.length)
      (hu : ∀ (i : Nat), i < ps.length → vs[i]? = some (u i)) (hp : ∀ (i : Nat) p, ps[i]? = some p → PatV T k h (u i) p) : PatV T k h (.agg #[.int .i64 kind, c, s]) (.mk kind cls ps)
abbrev PatsV (T : Tab) (k : PTys) (h : CH) (v : Value) (l : List Pat) : Prop := SlA T k.pat (PatV T k h) h v l
theorem PatV.gr {T : Tab} {k : PTys} {h h' : CH} (hw : h.wf) (g : Gr h h') {v : Value} {p : Pat} (hv : PatV T k h v p) : PatV T k h' v p := by
  induction hv with
  | mk oc os hc hs hlen hu hp ih => exact .mk oc os (Sl.gr hc hw g) (hs.gr hw g) hlen hu ih
theorem PatsV.gr {T : Tab} {k : PTys} {h h' : CH} (hw : h.wf) (g : Gr h h') {v : Value} {l : List Pat} (hv : PatsV T k h v l) : PatsV T k h' v l := by
  obtain ⟨vs, h1, h2, h3⟩ := hv
  exact ⟨vs, h1.gr hw g, h2, fun i x hx => let ⟨u, a, b⟩ := h3 i x hx; ⟨u, a, b.gr hw g⟩⟩
theorem cbin_addN {T : Tab} {h : CH} {t : TypeId} {xo yo : Operand} {n m : Nat} (h1 : n + m < 9223372036854775808) : cbin T h .add t xo yo (.int .i64 (n : Int)) (.int .i64 (m : Int)) = some (.int .i64 ((n + m : Nat) : Int)) := by
  show some (Value.int .i64 (IntKind.wrap .i64 ((n : Int) + m))) = _
  have : ((n : Int) + m) = ((n + m : Nat) : Int) := by omega
  rw [this, wrap_nat h1]
end Go.Cx
set_option linter.unusedSimpArgs false
set_option linter.unusedVariables false
namespace Go.Cx
structure RuleD where
  action : Int
  left : Pat
  right : Pat
def RuleV (T : Tab) (k : PTys) (h : CH) (v : Value) (r : RuleD) : Prop :=
  ∃ lc ls rc rs, v = .agg #[.int .i64 r.action, .int .i64 r.left.kind, lc, ls, .int .i64 r.right.kind, rc, rs] ∧ (isOne lc && isOne ls && isOne rc && isOne rs) = true ∧ PatV T k h (.agg #[.int .i64 r.left.kind, lc, ls]) r.left ∧ PatV T k h (.agg #[.int .i64 r.right.kind, rc, rs]) r.right
theorem RuleV.gr {T : Tab} {k : PTys} {h h' : CH} (hw : h.wf) (g : Gr h h') {v : Value} {r : RuleD} (hv : RuleV T k h v r) : RuleV T k h' v r := by
  obtain ⟨lc, ls, rc, rs, h1, h2, h3, h4⟩ := hv
  exact ⟨lc, ls, rc, rs, h1, h2, h3.gr hw g, h4.gr hw g⟩
abbrev RulesV (T : Tab) (k : PTys) (rule : TypeId) (h : CH) (v : Value) (l : List RuleD) : Prop := SlA T rule (RuleV T k h) h v l
theorem RulesV.gr {T : Tab} {k : PTys} {rule : TypeId} {h h' : CH} (hw : h.wf) (g : Gr h h') {v : Value} {l : List RuleD} (hv : RulesV T k rule h v l) : RulesV T k rule h' v l := by
  obtain ⟨vs, h1, h2, h3⟩ := hv
  exact ⟨vs, h1.gr hw g, h2, fun i x hx => let ⟨u, a, b⟩ := h3 i x hx; ⟨u, a, b.gr hw g⟩⟩
structure RulesD where
  classes : List ByteArray
  rules : List RuleD
def BreakV (T : Tab) (str : TypeId) (k : PTys) (rule : TypeId) (h : CH) (v : Value) (r : RulesD) : Prop :=
  ∃ c s, v = .agg #[c, s] ∧ isOne c = true ∧ isOne s = true ∧ SlS T str h c r.classes ∧ RulesV T k rule h s r.rules
theorem BreakV.gr {T : Tab} {str : TypeId} {k : PTys} {rule : TypeId} {h h' : CH} (hw : h.wf) (g : Gr h h') {v : Value} {r : RulesD} (hv : BreakV T str k rule h v r) : BreakV T str k rule h' v r := by
  obtain ⟨c, s, h1, h2, h3, h4, h5⟩ := hv
  exact ⟨c, s, h1, h2, h3, h4.gr hw g, h5.gr hw g⟩
end Go.Cx
set_option linter.unusedSimpArgs false
set_option linter.unusedVariables false
namespace Go.Cx
section
variable {H : Type} {T : Tab} {h : CH}
theorem cpart_agg {t : TypeId} {fs : Array Field} {n : Nat} (hu : T.und t = some (.struct fs)) (hs : T.size t = some n) (cs : List Value) (off : Nat) : cpart T t cs off = (lsub cs off n).map fun l => .agg l.toArray := by
  obtain ⟨i, h1, h2⟩ := obind hu
  obtain ⟨i', h3, h4⟩ := omap hs
  rw [h1] at h3
  cases h3
  unfold cpart
  rw [h1]
  simp only [Option.bind_some, h2, isAggD, cond_true, h4]
theorem sliceS_of {el : TypeId} {fs : Array Field} {n b o c : Nat} {ds : List (DataW H)} {l : Nat → List Value} (hu : T.und el = some (.struct fs)) (hs : T.size el = some n) (hl : ds.length < 9223372036854775808)
    (hsub : ∀ i x, ds[i]? = some x → ∃ cs ro fz, h.get b = some (.cells cs ro fz) ∧ lsub cs (o + i * n) n = some (l i)) : Sl T el h (.slice (some ⟨b, o, none⟩) ds.length c) ((List.range ds.length).map fun i => .agg (l i).toArray) := by
  refine ⟨by simpa using hl, some ⟨b, o, none⟩, c, by simp, fun i x hx => ?_⟩
  rw [List.getElem?_map] at hx
  obtain ⟨j, hj, rfl⟩ := Option.map_eq_some_iff.1 hx
  obtain ⟨hi, hji⟩ := List.getElem?_eq_some_iff.1 hj
  simp at hji hi
  subst hji
  obtain ⟨cs, ro, fz, h1, h2⟩ := hsub i _ (List.getElem?_eq_getElem hi)
  exact ⟨b, o, cs, ro, fz, n, rfl, hs, h1, by rw [cpart_agg hu hs, h2]; rfl⟩
theorem chooseN {α : Type} {n : Nat} {S : Nat → α → Prop} (h : ∀ i, i < n → ∃ a, S i a) : ∃ l : List α, l.length = n ∧ ∀ (i : Nat) a, l[i]? = some a → S i a := by
  induction n with
  | zero => exact ⟨[], rfl, fun i a hi => by simp at hi⟩
  | succ n ih =>
    obtain ⟨l, h1, h2⟩ := ih fun i hi => h i (by omega)
    obtain ⟨a, ha⟩ := h n (by omega)
    refine ⟨l ++ [a], by simp [h1], fun i b hb => ?_⟩
    rcases Nat.lt_or_ge i n with h3 | h3
    · rw [List.getElem?_append_left (by omega)] at hb
      exact h2 i b hb
    · rw [List.getElem?_append_right (by omega)] at hb
      have : i = n := by
        have := (List.getElem?_eq_some_iff.1 hb).1
        simp at this
        omega
      subst this
      rw [h1, Nat.sub_self] at hb
      cases hb
      exact ha
end
end Go.Cx
set_option linter.unusedSimpArgs false
set_option linter.unusedVariables false
namespace Go.Cx
theorem cbin_addI {T : Tab} {h : CH} {t : TypeId} {xo yo : Operand} {n m : Int} (h0 : -9223372036854775808 ≤ n + m) (h1 : n + m < 9223372036854775808) : cbin T h .add t xo yo (.int .i64 n) (.int .i64 m) = some (.int .i64 (n + m)) := by
  show some (Value.int .i64 (IntKind.wrap .i64 (n + m))) = _
  rw [IntKind.wrap_i64]
  congr 2
  omega
theorem RulesV.read {T : Tab} {k : PTys} {rule ts : TypeId} {fs : Array Field} {h : CH} {v : Value} {l : List RuleD} {i : Nat} {r : RuleD} (hu : T.und rule = some (.struct fs)) (hs : T.size rule = some 7) (hts : T.und ts = some (.slice rule)) (hv : RulesV T k rule h v l) (hr : l[i]? = some r) (kk : IntKind) :
    ∃ b o cs ro fz lc ls rc rs, cindexAddr T ts v (.int kk (i : Int)) = some (.pointer (some ⟨b, o, none⟩)) ∧ h.get b = some (.cells cs ro fz) ∧ (isOne lc && isOne ls && isOne rc && isOne rs) = true ∧ lsub cs o 7 = some [.int .i64 r.action, .int .i64 r.left.kind, lc, ls, .int .i64 r.right.kind, rc, rs] ∧
      PatV T k h (.agg #[.int .i64 r.left.kind, lc, ls]) r.left ∧ PatV T k h (.agg #[.int .i64 r.right.kind, rc, rs]) r.right := by
  obtain ⟨vs, ⟨hl, a, c, rfl, h2⟩, h3, h4⟩ := hv
  obtain ⟨u, hu1, lc, ls, rc, rs, rfl, ho, hL, hR⟩ := h4 i r hr
  obtain ⟨b, o, cs, ro, fz, s, rfl, k2, k3, k4⟩ := h2 i _ hu1
  have hlt : i < vs.length := (List.getElem?_eq_some_iff.1 hu1).1
  rw [hs] at k2
  cases k2
  rw [cpart_agg hu hs] at k4
  obtain ⟨l', h5, h6⟩ := omap k4
  simp only [Value.agg.injEq] at h6
  have h7 : l' = [.int .i64 r.action, .int .i64 r.left.kind, lc, ls, .int .i64 r.right.kind, rc, rs] := by
    have := congrArg Array.toList h6
    simpa using this
  subst h7
  refine ⟨b, o + i * 7, cs, ro, fz, lc, ls, rc, rs, ?_, k3, ho, h5, hL, hR⟩
  unfold cindexAddr
  rw [hts]
  simp only [Option.bind_some, rowOf, natOf_cast, hs]
  rw [(nble _ _).2 hlt]
  rfl
section
variable {H : Type} {T : Tab} {h : CH}
theorem three_of {fs : List Field} {a b c : TypeId} {cs : List Value} {xs : List (DataW H)} (hf : fs.map (·.type) = [a, b, c]) (hh : HasL T h fs cs xs) : ∃ (c1 c2 c3 : List Value) (d1 d2 d3 : DataW H), cs = c1 ++ (c2 ++ c3) ∧ Has T h a c1 d1 ∧ Has T h b c2 d2 ∧ Has T h c c3 d3 := by
  cases hh with
  | nil => cases hf
  | cons hs hx hr =>
    simp only [List.map_cons, List.cons.injEq] at hf
    obtain ⟨rfl, hf⟩ := hf
    obtain ⟨c2, c3, d2, d3, rfl, h1, h2⟩ := two_of hf hr
    exact ⟨_, c2, c3, _, d2, d3, rfl, hx, h1, h2⟩
theorem slA_of {el ts : TypeId} {fs : Array Field} {α : Type} {S : Value → α → Prop} {cs : List Value} {d : DataW H} {n : Nat} (hts : T.und ts = some (.slice el)) (hu : T.und el = some (.struct fs)) (hs : T.size el = some n) (hh : Has T h ts cs d) (hS : ∀ cs (d : DataW H), Has T h el cs d → ∃ a, S (.agg cs.toArray) a) : ∃ v l, cs = [v] ∧ isOne v = true ∧ SlA T el S h v l := by
  cases hh with
  | int hu' _ => rw [hts] at hu'; cases hu'
  | bool hu' => rw [hts] at hu'; cases hu'
  | str hu' _ => rw [hts] at hu'; cases hu'
  | struct hu' => rw [hts] at hu'; cases hu'
  | nil hu' => exact ⟨_, [], rfl, rfl, [], ⟨by simp, none, 0, rfl, fun i x hx => by simp at hx⟩, rfl, fun i x hx => by simp at hx⟩
  | slice hu' hs' hl hc hsub hall =>
    rw [hts] at hu'
    cases hu'
    rw [hs] at hs'
    cases hs'
    rename_i b o c ds rest l
    unfold maxLen at hc
    have h1 := sliceS_of (c := c) hu hs (by omega) hsub
    obtain ⟨ps, h2, h3⟩ := chooseN (n := ds.length) (S := fun i a => S (.agg (l i).toArray) a) fun i hi => hS _ _ (hall i _ (List.getElem?_eq_getElem hi))
    refine ⟨_, ps, rfl, rfl, _, h1, by simp [h2], fun i p hi => ⟨_, ?_, h3 i p hi⟩⟩
    have := (List.getElem?_eq_some_iff.1 hi).1
    rw [List.getElem?_map, List.getElem?_range (by omega)]
    rfl
theorem strsC_of {ts str : TypeId} {cs : List Value} {d : DataW H} (hu : T.und ts = some (.slice str)) (hs : T.size str = some 1) (hue : T.und str = some .string) (hh : Has T h ts cs d) : ∃ v l, cs = [v] ∧ isOne v = true ∧ SlS T str h v l ∧ CapOk v 1 ∧ ∀ s, s ∈ l → s.data.toList.length < 9223372036854775808 := by
  have hcap : ∀ v, cs = [v] → CapOk v 1 := by
    intro v hv
    cases hh with
    | int hu' _ => rw [hu] at hu'; cases hu'
    | bool hu' => rw [hu] at hu'; cases hu'
    | str hu' _ => rw [hu] at hu'; cases hu'
    | nil hu' => cases hv; exact .inl rfl
    | struct hu' => rw [hu] at hu'; cases hu'
    | slice hu' hs' hl hc hsub hall =>
      cases hv
      unfold maxLen at hc
      exact .inr ⟨_, _, _, _, rfl, .inl ⟨hl, by unfold unk; omega⟩⟩
  obtain ⟨v, vs, rfl, ho, h1, h2⟩ := slice_of hu hs hue rfl hh
  have key : ∀ l : List Value, (∀ x, x ∈ l → ∃ d : DataW H, Has T h str [x] d) → ∃ ss : List ByteArray, l = ss.map Value.string ∧ ∀ s, s ∈ ss → s.data.toList.length < 9223372036854775808 := by
    intro l
    induction l with
    | nil => exact fun _ => ⟨[], rfl, fun s hs => by cases hs⟩
    | cons x l ih =>
      intro hall
      obtain ⟨d, hd⟩ := hall x (List.mem_cons_self ..)
      obtain ⟨s, h3, h4⟩ := str_of hue hd
      cases h3
      obtain ⟨ss, rfl, h5⟩ := ih fun y hy => hall y (List.mem_cons_of_mem _ hy)
      exact ⟨s :: ss, rfl, fun y hy => by rcases List.mem_cons.1 hy with rfl | hy; exact h4; exact h5 y hy⟩
  obtain ⟨ss, rfl, h3⟩ := key vs h2
  exact ⟨v, ss, rfl, ho, h1, hcap v rfl, h3⟩
end
end Go.Cx
set_option linter.unusedSimpArgs false
set_option linter.unusedVariables false
namespace Go.Cx
open Go.RowKit (Below)
section
variable {H : Type} {enc : TypeId × Value → H} {P : Program} {T : Tab} {B0 : Nat} {w0 w : World} {held : Bool}
end
end Go.Cx
set_option linter.unusedSimpArgs false
set_option linter.unusedVariables false
namespace Go.Cx
end Go.Cx
set_option linter.unusedSimpArgs false
set_option linter.unusedVariables false
namespace Go.Cx
structure SpanD where
  lo : Int
  hi : Int
  value : Int
structure PropD where
  names : List ByteArray
  spans : List SpanD
def spanV (s : SpanD) : Value := .agg #[.int .i64 s.lo, .int .i64 s.hi, .int .i64 s.value]
abbrev SlSp (T : Tab) (span : TypeId) (h : CH) (v : Value) (l : List SpanD) : Prop := Sl T span h v (l.map spanV)
def PropV (T : Tab) (str span : TypeId) (h : CH) (v : Value) (p : PropD) : Prop :=
  ∃ c s, v = .agg #[c, s] ∧ isOne c = true ∧ isOne s = true ∧ SlS T str h c p.names ∧ SlSp T span h s p.spans
theorem PropV.gr {T : Tab} {str span : TypeId} {h h' : CH} {v : Value} {p : PropD} (hv : PropV T str span h v p) (hw : h.wf) (g : Gr h h') : PropV T str span h' v p := by
  obtain ⟨c, s, h1, h2, h3, h4, h5⟩ := hv
  exact ⟨c, s, h1, h2, h3, Sl.gr h4 hw g, Sl.gr h5 hw g⟩
def NamesQ (l : List ByteArray) : Prop :=
  (∀ s, s ∈ l → namedB s = true) ∧ (∀ (i j : Nat) a b, i < j → l[i]? = some a → l[j]? = some b → bytesBeq a.data.toList b.data.toList = false) ∧ 1 ≤ l.length ∧ l.length ≤ 250
def SpanAt (p : PropD) (i : Nat) (s : SpanD) : Prop :=
  0 ≤ s.lo ∧ s.lo ≤ s.hi ∧ s.hi ≤ 1114111 ∧ 1 ≤ s.value ∧ s.value < (p.names.length : Int) ∧ ∀ y, 0 < i → p.spans[i - 1]? = some y → y.hi < s.lo ∧ (y.hi + 1 = s.lo → y.value ≠ s.value)
def PropP (p : PropD) : Prop := NamesQ p.names ∧ ∀ (i : Nat) s, p.spans[i]? = some s → SpanAt p i s
def otherS : ByteArray := ⟨#[79, 116, 104, 101, 114]⟩
def otherD : PropD := ⟨[otherS], []⟩
noncomputable def countedD (p : PropD) : PropD := cond (tt (PropP p)) p otherD
def insideB (c : Int) (s : SpanD) : Bool := decide (s.lo ≤ c) && decide (c ≤ s.hi)
def valOf : Option SpanD → Int
  | some s => s.value
  | none => 0
def getV (q : PropD) (c : Int) : Int := valOf (q.spans.find? (insideB c))
noncomputable def nameD (p : PropD) (c : Int) : ByteArray := ((countedD p).names[(getV (countedD p) c).toNat]?).getD ⟨#[]⟩
def eqB (s x : ByteArray) : Bool := bytesBeq x.data.toList s.data.toList
def idxD (l : List ByteArray) (s : ByteArray) : Nat := (l.findIdx? (eqB s)).getD 0
noncomputable def clsD (p : PropD) (t : TabD) (text : List Int) : List Int := cond (tt (ValidP t)) (text.map fun c => (idxD t.classes (nameD p c) : Int)) []
theorem idx_first {s : ByteArray} : ∀ {l : List ByteArray} {i : Nat} {x : ByteArray}, (∀ (j : Nat) y, j < i → l[j]? = some y → eqB s y = false) → l[i]? = some x → eqB s x = true → idxD l s = i
  | [], i, x, _, hx, _ => by simp at hx
  | y :: l, 0, x, _, hx, hp => by
    cases hx
    unfold idxD
    rw [List.findIdx?_cons, hp]
    rfl
  | y :: l, i + 1, x, h, hx, hp => by
    have h0 := h 0 y (Nat.succ_pos i) rfl
    have hx' : l[i]? = some x := by simpa using hx
    have ih := idx_first (l := l) (i := i) (fun j z hj hz => h (j + 1) z (by omega) (by simpa using hz)) hx' hp
    have hsome : ∃ k, l.findIdx? (eqB s) = some k := by
      cases hh : l.findIdx? (eqB s) with
      | some k => exact ⟨k, rfl⟩
      | none =>
        have := (List.findIdx?_eq_none_iff.1 hh) x (List.mem_of_getElem? hx')
        rw [hp] at this; cases this
    obtain ⟨k, hk⟩ := hsome
    unfold idxD at ih ⊢
    rw [List.findIdx?_cons, h0, hk]
    rw [hk] at ih
    simp at ih ⊢
    exact ih
theorem idx_no {s : ByteArray} {l : List ByteArray} (h : ∀ y, y ∈ l → eqB s y = false) : idxD l s = 0 := by
  unfold idxD
  rw [List.findIdx?_eq_none_iff.2 h]
  rfl
theorem idx_lt {s : ByteArray} {l : List ByteArray} (h : 0 < l.length) : idxD l s < l.length := by
  unfold idxD
  cases hh : l.findIdx? (eqB s) with
  | none => exact h
  | some k => exact (List.findIdx?_eq_some_iff_getElem.1 hh).1
theorem cls_usable {p : PropD} {t : TabD} {text : List Int} (hV : ValidP t) : UsableP t (clsD p t text) := by
  refine ⟨hV, fun c hc => ?_⟩
  unfold clsD at hc
  rw [tt_t hV, cond_true, List.mem_map] at hc
  obtain ⟨x, _, rfl⟩ := hc
  have := idx_lt (s := nameD p x) (l := t.classes) (by have := hV.1.2.2.1; omega)
  omega
theorem cls_length {p : PropD} {t : TabD} {text : List Int} (hV : ValidP t) : (clsD p t text).length = text.length := by
  unfold clsD
  rw [tt_t hV, cond_true, List.length_map]
theorem cls_le {p : PropD} {t : TabD} {text : List Int} : (clsD p t text).length ≤ text.length := by
  by_cases hV : ValidP t
  · rw [cls_length hV]; exact Nat.le_refl _
  · unfold clsD; rw [tt_f hV]; simp
theorem cls_bad {p : PropD} {t : TabD} {text : List Int} (hV : ¬ ValidP t) : clsD p t text = [] := by
  unfold clsD; rw [tt_f hV]; rfl
theorem prop_asc {p : PropD} (hP : PropP p) : ∀ (d i : Nat) a b, p.spans[i]? = some a → p.spans[i + (d + 1)]? = some b → a.hi < b.lo
  | 0, i, a, b, ha, hb => ((hP.2 _ b hb).2.2.2.2.2 a (by omega) (by rw [show i + (0 + 1) - 1 = i by omega]; exact ha)).1
  | d + 1, i, a, b, ha, hb => by
    obtain ⟨m, hm⟩ : ∃ m, p.spans[i + (d + 1)]? = some m := ⟨_, List.getElem?_eq_getElem (by have := (List.getElem?_eq_some_iff.1 hb).1; omega)⟩
    have h1 := prop_asc hP d i a m ha hm
    have h2 := ((hP.2 _ b hb).2.2.2.2.2 m (by omega) (by rw [show i + (d + 1 + 1) - 1 = i + (d + 1) by omega]; exact hm)).1
    have h3 := (hP.2 _ m hm).2.1
    omega
theorem prop_lt {p : PropD} (hP : PropP p) {i j : Nat} {a b : SpanD} (hij : i < j) (ha : p.spans[i]? = some a) (hb : p.spans[j]? = some b) : a.hi < b.lo :=
  prop_asc hP (j - i - 1) i a b ha (by rw [show i + (j - i - 1 + 1) = j by omega]; exact hb)
theorem find_at {p : PropD} (hP : PropP p) {c : Int} {i : Nat} {s : SpanD} (hs : p.spans[i]? = some s) (hc : insideB c s = true) : p.spans.find? (insideB c) = some s := by
  refine find_first (i := i) (fun j y hj hy => ?_) hs hc
  have h1 := prop_lt hP hj hy hs
  unfold insideB at hc ⊢
  simp at hc
  cases hd : decide (c ≤ y.hi) with
  | false => simp
  | true => simp at hd; omega
theorem getV_ok {p : PropD} (hP : PropP p) (c : Int) : 0 ≤ getV p c ∧ getV p c < (p.names.length : Int) := by
  unfold getV
  cases hf : p.spans.find? (insideB c) with
  | none => exact ⟨Int.le_refl _, by show (0 : Int) < _; have := hP.1.2.2.1; omega⟩
  | some s =>
    obtain ⟨i, hi⟩ := List.mem_iff_getElem?.1 (List.mem_of_find?_eq_some hf)
    have := hP.2 i s hi
    exact ⟨by show 0 ≤ s.value; have := this.2.2.2.1; omega, this.2.2.2.2.1⟩
theorem otherD_ok : PropP otherD := by
  refine ⟨⟨?_, ?_, by decide, by decide⟩, fun i s hs => by simp [otherD] at hs⟩
  · intro s hs
    have : s = otherS := by simpa [otherD] using hs
    subst this
    rfl
  · intro i j a b hij ha hb
    have := (List.getElem?_eq_some_iff.1 hb).1
    have hl : otherD.names.length = 1 := rfl
    omega
theorem counted_ok (p : PropD) : PropP (countedD p) := by
  unfold countedD
  cases h : tt (PropP p) with
  | true => exact tt_iff.1 h
  | false => exact otherD_ok
theorem nameD_get (p : PropD) (c : Int) : (countedD p).names[(getV (countedD p) c).toNat]? = some (nameD p c) := by
  have h := getV_ok (counted_ok p) c
  unfold nameD
  rw [List.getElem?_eq_getElem (by omega)]
  rfl
section
variable {H : Type} {T : Tab} {h : CH}
structure PropTys (T : Tab) (int str span strs spans prop : TypeId) : Prop where
  hint : T.und int = some (.int .i64)
  hspan : ∃ fs : Array Field, T.und span = some (.struct fs) ∧ fs.toList.map (·.type) = [int, int, int]
  hprop : ∃ fs : Array Field, T.und prop = some (.struct fs) ∧ fs.toList.map (·.type) = [strs, spans]
  hspans : T.und spans = some (.slice span)
  hstrs : T.und strs = some (.slice str)
  hstr : T.und str = some .string
  hsstr : T.size str = some 1
  hsspan : T.size span = some 3
theorem span_of {int str span strs spans prop : TypeId} (ht : PropTys T int str span strs spans prop) {cs : List Value} {d : DataW H} (hh : Has T h span cs d) : ∃ s, Value.agg cs.toArray = spanV s := by
  obtain ⟨fs, hu, hf⟩ := ht.hspan
  cases hh with
  | int hu' _ => rw [hu] at hu'; cases hu'
  | bool hu' => rw [hu] at hu'; cases hu'
  | str hu' _ => rw [hu] at hu'; cases hu'
  | nil hu' => rw [hu] at hu'; cases hu'
  | slice hu' => rw [hu] at hu'; cases hu'
  | struct hu' hs hfs =>
    rw [hu] at hu'
    cases hu'
    obtain ⟨c1, c2, c3, d1, d2, d3, rfl, h1, h2, h3⟩ := three_of hf hfs
    obtain ⟨a, rfl⟩ := int_of ht.hint h1
    obtain ⟨b, rfl⟩ := int_of ht.hint h2
    obtain ⟨c, rfl⟩ := int_of ht.hint h3
    exact ⟨⟨a, b, c⟩, rfl⟩
theorem slA_map {α : Type} {t : TypeId} {v : Value} {f : α → Value} {l : List α} (hs : SlA T t (fun u a => u = f a) h v l) : Sl T t h v (l.map f) := by
  obtain ⟨vs, h1, h2, h3⟩ := hs
  have : vs = l.map f := by
    apply List.ext_getElem?
    intro i
    rw [List.getElem?_map]
    rcases Nat.lt_or_ge i l.length with hi | hi
    · obtain ⟨u, h4, h5⟩ := h3 i _ (List.getElem?_eq_getElem hi)
      rw [h4, h5, List.getElem?_eq_getElem hi]
      rfl
    · rw [List.getElem?_eq_none (by omega), List.getElem?_eq_none hi]
      rfl
  rw [← this]
  exact h1
theorem propC_of {int str span strs spans prop : TypeId} (ht : PropTys T int str span strs spans prop) {cs : List Value} {d : DataW H} (hh : Has T h prop cs d) :
    ∃ c s p, cs = [c, s] ∧ PropV T str span h (.agg #[c, s]) p ∧ ∀ s, s ∈ p.names → s.data.toList.length < 9223372036854775808 := by
  obtain ⟨fs, hu, hf⟩ := ht.hprop
  cases hh with
  | int hu' _ => rw [hu] at hu'; cases hu'
  | bool hu' => rw [hu] at hu'; cases hu'
  | str hu' _ => rw [hu] at hu'; cases hu'
  | nil hu' => rw [hu] at hu'; cases hu'
  | slice hu' => rw [hu] at hu'; cases hu'
  | struct hu' hs hfs =>
    rw [hu] at hu'
    cases hu'
    obtain ⟨c1, c2, d1, d2, rfl, h1, h2⟩ := two_of hf hfs
    obtain ⟨c, cl, rfl, o1, hc, hcap, hl⟩ := strsC_of ht.hstrs ht.hsstr ht.hstr h1
    obtain ⟨sfs, hsu, _⟩ := ht.hspan
    obtain ⟨s, sl, rfl, o2, hr⟩ := slA_of (S := fun u a => u = spanV a) ht.hspans hsu ht.hsspan h2 fun cs d hd => span_of ht hd
    exact ⟨c, s, ⟨cl, sl⟩, rfl, ⟨c, s, rfl, o1, o2, hc, slA_map hr⟩, hl⟩
theorem prop_of {int str span strs spans prop : TypeId} (ht : PropTys T int str span strs spans prop) {cv : Value} {d : DataW H} (hh : Has T h prop cv.cells.toList d) :
    ∃ p, PropV T str span h cv p ∧ ∀ s, s ∈ p.names → s.data.toList.length < 9223372036854775808 := by
  obtain ⟨c, s, p, hcs, hb, hlen⟩ := propC_of ht hh
  have : cv = .agg #[c, s] := by
    cases cv
    case agg a' =>
      simp only [Value.cells] at hcs
      congr 1
      exact Array.toList_inj.1 hcs
    all_goals (simp [Value.cells] at hcs)
  subst this
  exact ⟨p, hb, hlen⟩
end
end Go.Cx
set_option linter.unusedSimpArgs false
set_option linter.unusedVariables false
namespace Go.Cx
section
variable {X : Cxt} {rnd : Bool} {ops : List Oper} {o : Oper} {l : List Oper} {n : Nat} {tm : PT Value} {ds : List Deferred} {rc : Option FrameMode} {h : CH} {Q : KP} {d : Nat}
theorem pops.range {t : TypeId} {x : Operand} {s : ByteArray} (hw : cwant ops tm o = some true) (ho : o.op = .range t x) (hx : ev tm x = some (.string s)) (hd : o.dst = some d) (hl : Nat.ble (d + 1) n = true) (hu : X.T.und t = some .string) (hwf : h.wf)
    (hn : ∀ b h', h.n ≤ b → h'.wf → Gr h h' → h'.get b = some (.iter s 0) → pops X rnd ops l ⟨n, tm.set (.pointer (some ⟨b, 0, none⟩)) d, ds, rc⟩ h' Q) : pops X rnd ops (o :: l) ⟨n, tm, ds, rc⟩ h Q :=
  pops.val hw (h' := h.push (.iter s 0)) (by unfold cop; simp only [ho, COut.of, hx, crange, hu, hnew]) hd hl (hn h.n _ (Nat.le_refl _) (CH.wf_push hwf _) (Gr.push _ _) (by rw [CH.get_push, if_pos rfl]))
theorem pops.nextA {it : Operand} {b pos : Nat} {s : ByteArray} {c : UInt8} (hw : cwant ops tm o = some true) (ho : o.op = .next it true) (hx : ev tm it = some (.pointer (some ⟨b, 0, none⟩))) (hd : o.dst = some d) (hl : Nat.ble (d + 1) n = true) (hg : h.get b = some (.iter s pos)) (hc : s.data.toList[pos]? = some c) (ha : c.toNat < 128) (hwf : h.wf)
    (hn : ∀ h', h'.wf → Upd b h h' → h'.get b = some (.iter s (pos + 1)) → pops X rnd ops l ⟨n, tm.set (.tuple #[.bool true, .int .i64 pos, .int .i32 c.toNat]) d, ds, rc⟩ h' Q) : pops X rnd ops (o :: l) ⟨n, tm, ds, rc⟩ h Q := by
  refine pops.val hw (h' := h.put b (.iter s (pos + 1))) ?_ hd hl (hn _ (CH.wf_put hwf hg) (Upd.put _ _) (by rw [CH.get_put, if_pos rfl]))
  unfold cop
  simp only [ho, COut.of, hx, cnext, cond_true, ptrOf, hg, lget_eq, hc]
  rw [Nat.beq_refl, cond_true, (nble _ _).2 (by omega), cond_true]
theorem pops.nextU {it : Operand} {b pos : Nat} {s : ByteArray} {c : UInt8} (hw : cwant ops tm o = some true) (ho : o.op = .next it true) (hx : ev tm it = some (.pointer (some ⟨b, 0, none⟩))) (hd : o.dst = some d) (hl : Nat.ble (d + 1) n = true) (hg : h.get b = some (.iter s pos)) (hc : s.data.toList[pos]? = some c) (ha : 128 ≤ c.toNat) (hwf : h.wf)
    (hn : ∀ h' p', h'.wf → Upd b h h' → h'.get b = some (.iter s p') → pops X rnd ops l ⟨n, tm.set (.tuple #[.bool true, .int .i64 pos, .int .i32 (Utf8.decode s pos).1]) d, ds, rc⟩ h' Q) : pops X rnd ops (o :: l) ⟨n, tm, ds, rc⟩ h Q := by
  refine pops.val hw (h' := h.put b (.iter s (pos + (Utf8.decode s pos).2))) ?_ hd hl (hn _ _ (CH.wf_put hwf hg) (Upd.put _ _) (by rw [CH.get_put, if_pos rfl]))
  unfold cop
  simp only [ho, COut.of, hx, cnext, cond_true, ptrOf, hg, lget_eq, hc]
  rw [Nat.beq_refl, cond_true, (nble_ff _ _).2 (by omega), cond_false]
theorem pops.nextE {it : Operand} {b pos : Nat} {s : ByteArray} (hw : cwant ops tm o = some true) (ho : o.op = .next it true) (hx : ev tm it = some (.pointer (some ⟨b, 0, none⟩))) (hd : o.dst = some d) (hl : Nat.ble (d + 1) n = true) (hg : h.get b = some (.iter s pos)) (hc : s.data.toList.length ≤ pos)
    (hn : pops X rnd ops l ⟨n, tm.set (.tuple #[.bool false]) d, ds, rc⟩ h Q) : pops X rnd ops (o :: l) ⟨n, tm, ds, rc⟩ h Q := by
  refine pops.val hw (h' := h) ?_ hd hl hn
  unfold cop
  simp only [ho, COut.of, hx, cnext, cond_true, ptrOf, hg, lget_eq, List.getElem?_eq_none hc]
  rw [Nat.beq_refl, cond_true]
end
theorem decode_big {s : ByteArray} {pos : Nat} {c : UInt8} (hc : s.data.toList[pos]? = some c) (ha : 128 ≤ c.toNat) : 128 ≤ (Utf8.decode s pos).1 := by
  have hb : (s.get! (pos + 0)).toNat = c.toNat := by
    obtain ⟨h1, h2⟩ := List.getElem?_eq_some_iff.1 hc
    have h3 : pos < s.data.size := by simpa using h1
    have : s.get! pos = c := by
      show s.data[pos]! = c
      rw [getElem!_pos s.data pos h3, ← h2]
      rfl
    rw [Nat.add_zero, this]
  unfold Utf8.decode
  simp only [hb]
  rw [if_neg (by omega)]
  split
  · split
    · rename_i h; exact h
    · exact (by decide : 128 ≤ Utf8.runeError)
  · split
    · split
      · rename_i h
        rw [Bool.and_eq_true] at h
        have h1 := of_decide_eq_true h.1
        exact Nat.le_trans (by decide) h1
      · exact (by decide : 128 ≤ Utf8.runeError)
    · split
      · split
        · rename_i h
          rw [Bool.and_eq_true] at h
          have h1 := of_decide_eq_true h.1
          exact Nat.le_trans (by decide) h1
        · exact (by decide : 128 ≤ Utf8.runeError)
      · exact (by decide : 128 ≤ Utf8.runeError)
def OwnA {α : Type} (f : α → List Value) (s : Nat) (h : CH) (v : Value) (b : Nat) (l : List α) : Prop :=
  (l = [] ∧ v = .slice none 0 0) ∨ ∃ c, v = .slice (some ⟨b, 0, none⟩) l.length c ∧ h.get b = some (.cells (l.flatMap f) false false) ∧ (c = l.length ∨ c = unk + s)
theorem OwnA.gr {α : Type} {f : α → List Value} {s : Nat} {h h' : CH} {v : Value} {b : Nat} {l : List α} (ho : OwnA f s h v b l) (hw : h.wf) (g : Gr h h') : OwnA f s h' v b l := by
  rcases ho with ho | ⟨c, h1, h2, h3⟩
  · exact .inl ho
  · exact .inr ⟨c, h1, g.at hw h2, h3⟩
theorem flatMap_len {α : Type} {f : α → List Value} {s : Nat} (hf : ∀ x, (f x).length = s) : ∀ l : List α, (l.flatMap f).length = l.length * s
  | [] => by simp
  | x :: l => by
    rw [List.flatMap_cons, List.length_append, flatMap_len hf l, hf, List.length_cons, Nat.add_mul]
    omega
theorem flatMap_sub {α : Type} {f : α → List Value} {s : Nat} (hf : ∀ x, (f x).length = s) : ∀ (l : List α) (i : Nat) (x : α), l[i]? = some x → ((l.flatMap f).drop (i * s)).take s = f x
  | [], i, x, h => by simp at h
  | y :: l, 0, x, h => by
    cases h
    rw [List.flatMap_cons, Nat.zero_mul, List.drop_zero, List.take_append_of_le_length (by rw [hf]; exact Nat.le_refl _), ← hf y, List.take_length]
  | y :: l, i + 1, x, h => by
    rw [List.flatMap_cons, List.drop_append, List.drop_eq_nil_of_le (by rw [hf, Nat.add_mul]; omega), List.nil_append, hf, show (i + 1) * s - s = i * s by rw [Nat.add_mul]; omega]
    exact flatMap_sub hf l i x (by simpa using h)
theorem OwnA.sl {α : Type} {f : α → List Value} {g : α → Value} {s : Nat} {T : Tab} {t : TypeId} {fs : Array Field} {h : CH} {v : Value} {b : Nat} {l : List α} (ho : OwnA f s h v b l) (hf : ∀ x, (f x).length = s) (hg : ∀ x, g x = .agg (f x).toArray) (hs : T.size t = some s) (hu : T.und t = some (.struct fs)) (hl : l.length < 9223372036854775808) : Sl T t h v (l.map g) := by
  rcases ho with ⟨rfl, rfl⟩ | ⟨c, rfl, h2, h3⟩
  · exact ⟨by simp, none, 0, rfl, fun i x hx => by simp at hx⟩
  · refine ⟨by simpa using hl, some ⟨b, 0, none⟩, c, by simp, fun i x hx => ?_⟩
    rw [List.getElem?_map] at hx
    obtain ⟨a, ha, rfl⟩ := Option.map_eq_some_iff.1 hx
    refine ⟨b, 0, _, false, false, s, rfl, hs, h2, ?_⟩
    have hi := (List.getElem?_eq_some_iff.1 ha).1
    have hle : (i + 1) * s ≤ l.length * s := Nat.mul_le_mul_right _ hi
    rw [Nat.add_mul] at hle
    rw [cpart_agg hu hs, Nat.zero_add, lsub_of _ _ _ (by rw [flatMap_len hf]; omega), flatMap_sub hf l i a ha, hg]
    rfl
theorem append_ownA {α : Type} {f : α → List Value} {s : Nat} {T : Tab} {t e : TypeId} {ty2 : TypeId} {i : TypeInfo} {z : List Value} {h : CH} {v : Value} {x : α} {b b1 : Nat} {l : List α} {c1 : Nat} (hf : ∀ x, (f x).length = s) (hs1 : 1 ≤ s) (hw : h.wf) (ho : OwnA f s h v b l) (hu : T.und t = some (.slice e)) (hi : T.info e = some i) (hsz : i.size = s) (hby : 1 ≤ i.bytes) (hbb : i.bytes ≤ 64) (hz : zeroCellsOf T e = some z) (hzl : z.length = s)
    (hu2 : isSliceD (T.und ty2) = true) (hx1 : (f x).all isOne = true) (hb1 : h.get b1 = some (.cells (f x) false false)) (hll : l.length ≤ 1000000) :
    ∃ v' h' b', cappend T h [t, ty2] v (.slice (some ⟨b1, 0, none⟩) 1 c1) = .val v' h' ∧ h'.wf ∧ Chg b h h' ∧ h.n ≤ b' ∧ OwnA f s h' v' b' (l ++ [x]) := by
  have hsrc : csrc T h s e (some ty2) (.slice (some ⟨b1, 0, none⟩) 1 c1) = some (1, f x) := by
    unfold csrc
    simp only [Option.bind_some, hu2, cond_true]
    rw [row_of hb1]
    simp only [Option.bind_some]
    rw [lsub_of _ _ _ (by rw [hf]; omega)]
    rw [List.drop_zero, Nat.one_mul, ← hf x, List.take_length]
    rfl
  have hguard : (Nat.ble 1 s && Nat.ble 1 i.bytes && Nat.beq z.length s && Nat.ble ((4 * (l.length + 1) + 4000) * i.bytes) 281474976710656 && (f x).all isOne) = true := by
    have h1 : (4 * (l.length + 1) + 4000) * i.bytes ≤ 281474976710656 := by
      have : (4 * (l.length + 1) + 4000) * i.bytes ≤ 4004004 * 64 := Nat.mul_le_mul (by omega) hbb
      omega
    rw [(nble _ _).2 hs1, (nble _ _).2 hby, (nbeq _ _).2 hzl, (nble _ _).2 h1, hx1]
    rfl
  have happ : l.flatMap f ++ f x = (l ++ [x]).flatMap f := by simp
  have hfl := flatMap_len hf l
  rcases ho with ⟨rfl, rfl⟩ | ⟨c, rfl, h2, h3⟩
  · refine ⟨.slice (some ⟨h.n, 0, none⟩) (0 + 1) (unk + s), h.push (.cells ([] ++ f x) false false), h.n, ?_, CH.wf_push hw _, ⟨Nat.le_succ _, fun c hc _ => by rw [CH.get_push, if_neg (by omega)]⟩, Nat.le_refl _, .inr ⟨_, rfl, by rw [CH.get_push, if_pos rfl]; simp, .inr rfl⟩⟩
    unfold cappend
    simp only [COut.of, List.head?_cons, hu, hi, hz, hsz, List.tail_cons, hsrc, cappend2]
    have hguard := hguard
    simp only [List.length_nil] at hguard
    rw [hguard]
    rfl
  · rcases h3 with rfl | rfl
    · refine ⟨.slice (some ⟨h.n, 0, none⟩) (l.length + 1) (unk + s), h.push (.cells (l.flatMap f ++ f x) false false), h.n, ?_, CH.wf_push hw _, ⟨Nat.le_succ _, fun c hc _ => by rw [CH.get_push, if_neg (by omega)]⟩, Nat.le_refl _, .inr ⟨_, by simp, by rw [CH.get_push, if_pos rfl, happ], .inr rfl⟩⟩
      unfold cappend
      simp only [COut.of, List.head?_cons, hu, hi, hz, hsz, List.tail_cons, hsrc, cappend2]
      rw [hguard, (nble_ff unk l.length).2 (by unfold unk; omega), (nble_ff _ _).2 (by omega)]
      simp only [cond_true, cond_false, appNew]
      rw [row_of h2]
      simp only [Option.bind_some, COut.of]
      rw [lsub_of _ 0 _ (by omega), List.drop_zero, ← hfl, List.take_length]
    · refine ⟨.slice (some ⟨h.n, 0, none⟩) (l.length + 1) (unk + s), (h.put b .dead).push (.cells (l.flatMap f ++ f x) false false), h.n, ?_, CH.wf_push (CH.wf_put hw h2) _, ⟨Nat.le_succ _, fun c hc hne => ?_⟩, Nat.le_refl _, .inr ⟨_, by simp, ?_, .inr rfl⟩⟩
      · unfold cappend
        simp only [COut.of, List.head?_cons, hu, hi, hz, hsz, List.tail_cons, hsrc, cappend2]
        rw [hguard, (nble unk (unk + s)).2 (by omega), Nat.beq_refl]
        simp only [cond_true, appU, wrow, h2, COut.of]
        rw [lsub_of _ 0 _ (by omega), List.drop_zero, ← hfl, List.take_length]
      · rw [CH.get_push, if_neg (by rw [CH.n_put]; omega), CH.get_put, if_neg hne]
      · rw [CH.get_push, if_pos (by rw [CH.n_put]), happ]
section
variable {X : Cxt} {rnd : Bool} {ops : List Oper} {o : Oper} {l : List Oper} {n : Nat} {tm : PT Value} {ds : List Deferred} {rc : Option FrameMode} {h : CH} {Q : KP} {d : Nat}
theorem pops.appendA {α : Type} {f : α → List Value} {s : Nat} {c : Call} {xo yo : Operand} {t t2 e : TypeId} {v : Value} {x : α} {b b1 c1 : Nat} {us : List α} {i : TypeInfo} {z : List Value} (hf : ∀ x, (f x).length = s) (hs1 : 1 ≤ s) (hw : cwant ops tm o = some true) (ho : o.op = .call c) (hc : c.callee = .builtin .append) (ha : c.args.toList = [xo, yo]) (ht : c.argTypes.toList = [t, t2]) (hx : ev tm xo = some v) (hy : ev tm yo = some (.slice (some ⟨b1, 0, none⟩) 1 c1))
    (hd : o.dst = some d) (hl : Nat.ble (d + 1) n = true) (hu : X.T.und t = some (.slice e)) (hi : X.T.info e = some i) (hsz : i.size = s) (hby : Nat.ble 1 i.bytes = true) (hbb : Nat.ble i.bytes 64 = true) (hz : zeroCellsOf X.T e = some z) (hzl : z.length = s) (hu2 : isSliceD (X.T.und t2) = true)
    (hwf : h.wf) (hown : OwnA f s h v b us) (hx1 : (f x).all isOne = true) (hb1 : h.get b1 = some (.cells (f x) false false)) (hll : us.length ≤ 1000000)
    (hn : ∀ v' b' h', h'.wf → Chg b h h' → h.n ≤ b' → OwnA f s h' v' b' (us ++ [x]) → pops X rnd ops l ⟨n, tm.set v' d, ds, rc⟩ h' Q) : pops X rnd ops (o :: l) ⟨n, tm, ds, rc⟩ h Q := by
  obtain ⟨v', h', b', h1, h2, h3, h4, h5⟩ := append_ownA (T := X.T) hf hs1 hwf hown hu hi hsz ((nble _ _).1 hby) ((nble _ _).1 hbb) hz hzl hu2 hx1 hb1 hll (t := t) (ty2 := t2) (c1 := c1)
  exact pops.val hw ((cop_append ho hc ha ht hx hy).trans h1) hd hl (hn v' b' h' h2 h3 h4 h5)
end
end Go.Cx
set_option linter.unusedSimpArgs false
set_option linter.unusedVariables false
namespace Go.Cx
abbrev RangeD := Int × Int
def rangeC (r : RangeD) : List Value := [.int .i64 r.1, .int .i64 r.2]
def rangeV (r : RangeD) : Value := .agg #[.int .i64 r.1, .int .i64 r.2]
abbrev SlR (T : Tab) (t : TypeId) (h : CH) (v : Value) (l : List RangeD) : Prop := Sl T t h v (l.map rangeV)
def endsTo (a : List Int) (i : Nat) : List Int := List.map (fun (k : Nat) => (k : Int)) (List.filter (fun k => decide (a.getD k 0 ≠ 1)) (List.range i))
def endsD (a : List Int) : List Int := endsTo a a.length
theorem endsTo_yes {a : List Int} {i : Nat} {x : Int} (hx : a[i]? = some x) (h : x ≠ 1) : endsTo a (i + 1) = endsTo a i ++ [(i : Int)] := by
  unfold endsTo
  rw [List.range_succ, List.filter_append, List.map_append]
  congr 1
  have : a.getD i 0 = x := by rw [List.getD_eq_getElem?_getD, hx]; rfl
  simp only [List.filter_cons, List.filter_nil, this, decide_eq_true h, if_true, List.map_cons, List.map_nil]
theorem endsTo_no {a : List Int} {i : Nat} {x : Int} (hx : a[i]? = some x) (h : x = 1) : endsTo a (i + 1) = endsTo a i := by
  unfold endsTo
  rw [List.range_succ, List.filter_append, List.map_append]
  have : a.getD i 0 = x := by rw [List.getD_eq_getElem?_getD, hx]; rfl
  subst h
  simp only [List.filter_cons, List.filter_nil, this, ne_eq, not_true_eq_false, decide_false, Bool.false_eq_true, if_false, List.map_nil, List.append_nil]
theorem endsTo_len (a : List Int) (i : Nat) : (endsTo a i).length ≤ i := by
  unfold endsTo
  rw [List.length_map]
  exact Nat.le_trans (List.length_filter_le _ _) (by simp)
theorem endsTo_mem {a : List Int} {i : Nat} {y : Int} : y ∈ endsTo a i ↔ ∃ k : Nat, y = k ∧ k < i ∧ a.getD k 0 ≠ 1 := by
  unfold endsTo
  rw [List.mem_map]
  constructor
  · rintro ⟨k, hk, rfl⟩
    rw [List.mem_filter, List.mem_range] at hk
    exact ⟨k, rfl, hk.1, of_decide_eq_true hk.2⟩
  · rintro ⟨k, rfl, h1, h2⟩
    exact ⟨k, by rw [List.mem_filter, List.mem_range]; exact ⟨h1, decide_eq_true h2⟩, rfl⟩
theorem endsTo_asc (a : List Int) : ∀ i, (endsTo a i).Pairwise (· < ·)
  | 0 => by unfold endsTo; simp
  | i + 1 => by
    have h1 : endsTo a (i + 1) = endsTo a i ++ (if a.getD i 0 ≠ 1 then [(i : Int)] else []) := by
      unfold endsTo
      rw [List.range_succ, List.filter_append, List.map_append]
      congr 1
      by_cases h : a.getD i 0 = 1
      · simp only [List.filter_cons, List.filter_nil, h, ne_eq, not_true_eq_false, decide_false, Bool.false_eq_true, if_false, List.map_nil]
      · simp only [List.filter_cons, List.filter_nil, ne_eq, h, not_false_eq_true, decide_true, if_true, List.map_cons, List.map_nil]
    rw [h1, List.pairwise_append]
    refine ⟨endsTo_asc a i, by split <;> simp, fun x hx y hy => ?_⟩
    obtain ⟨k, rfl, hk, _⟩ := endsTo_mem.1 hx
    split at hy
    · have : y = i := by simpa using hy
      omega
    · cases hy
def betw : Int → List Int → List RangeD
  | _, [] => []
  | u, x :: xs => if u < x then (u, x) :: betw x xs else betw u xs
def Asc (u : Int) (l : List Int) : Prop := (∀ x, x ∈ l → u ≤ x) ∧ l.Pairwise (· ≤ ·)
theorem betw_step {u x : Int} {l : List Int} {i : Nat} (ha : Asc u (l.drop i)) (hx : l[i]? = some x) :
    u ≤ x ∧ Asc x (l.drop (i + 1)) ∧ betw u (l.drop i) = (if u < x then [(u, x)] else []) ++ betw x (l.drop (i + 1)) := by
  obtain ⟨hi, rfl⟩ := List.getElem?_eq_some_iff.1 hx
  rw [List.drop_eq_getElem_cons hi] at ha ⊢
  obtain ⟨h1, h2⟩ := ha
  rw [List.pairwise_cons] at h2
  have h3 := h1 _ (List.mem_cons_self ..)
  refine ⟨h3, ⟨h2.1, h2.2⟩, ?_⟩
  show (if u < l[i] then (u, l[i]) :: betw l[i] (l.drop (i + 1)) else betw u (l.drop (i + 1))) = _
  split
  · rfl
  · have : u = l[i] := by omega
    rw [this]
    rfl
theorem ends_asc {a : List Int} {n : Nat} (hn : a.length ≤ n + 1) : Asc 0 (endsD a ++ [(n : Int)]) := by
  constructor
  · intro x hx
    rw [List.mem_append] at hx
    rcases hx with hx | hx
    · obtain ⟨k, rfl, _⟩ := endsTo_mem.1 hx; omega
    · have : x = n := by simpa using hx
      omega
  · rw [List.pairwise_append]
    refine ⟨(endsTo_asc a a.length).imp (fun h => by omega), by simp, fun x hx y hy => ?_⟩
    obtain ⟨k, rfl, hk, _⟩ := endsTo_mem.1 hx
    have : y = n := by simpa using hy
    omega
noncomputable def boundsD (p : PropD) (t : TabD) (text : List Int) : List Int := endsD (ActionsR t (clsD p t text))
noncomputable def cutsD (p : PropD) (t : TabD) (text : List Int) : List Int := boundsD p t text ++ [(text.length : Int)]
noncomputable def partsD (p : PropD) (t : TabD) (text : List Int) : List RangeD := cond (tt (ValidP t)) (betw 0 (cutsD p t text)) []
theorem acts_length {p : PropD} {t : TabD} {text : List Int} (hV : ValidP t) : (ActionsR t (clsD p t text)).length = text.length + 1 := by
  unfold ActionsR
  rw [tt_t (cls_usable hV), cond_true, List.length_map, List.length_range, cls_length hV]
theorem acts_le {p : PropD} {t : TabD} {text : List Int} : (ActionsR t (clsD p t text)).length ≤ text.length + 1 := by
  unfold ActionsR
  cases tt (UsableP t (clsD p t text)) with
  | true => rw [cond_true, List.length_map, List.length_range]; have := cls_le (p := p) (t := t) (text := text); omega
  | false => simp
theorem cuts_asc (p : PropD) (t : TabD) (text : List Int) : Asc 0 (cutsD p t text) := ends_asc acts_le
theorem bounds_le {p : PropD} {t : TabD} {text : List Int} : (boundsD p t text).length ≤ text.length + 1 := by
  unfold boundsD endsD
  exact Nat.le_trans (endsTo_len _ _) acts_le
theorem cuts_length {p : PropD} {t : TabD} {text : List Int} : (cutsD p t text).length = (boundsD p t text).length + 1 := by simp [cutsD]
theorem betw_len : ∀ (l : List Int) (u : Int), (betw u l).length ≤ l.length
  | [], _ => Nat.le_refl _
  | x :: l, u => by
    show (if u < x then (u, x) :: betw x l else betw u l).length ≤ _
    split
    · have := betw_len l x; simp; omega
    · have := betw_len l u; simp; omega
theorem parts_le {p : PropD} {t : TabD} {text : List Int} : (partsD p t text).length ≤ text.length + 2 := by
  unfold partsD
  cases tt (ValidP t) with
  | true => rw [cond_true]; have := betw_len (cutsD p t text) 0; have := cuts_length (p := p) (t := t) (text := text); have := bounds_le (p := p) (t := t) (text := text); omega
  | false => simp
def Cov (a : List Int) (n : Int) : Int → List RangeD → Prop
  | u, [] => u = n
  | u, r :: l => r.1 = u ∧ u < r.2 ∧ r.2 ≤ n ∧ (l ≠ [] → a.getD r.2.toNat 0 ≠ 1) ∧ (∀ k : Nat, u < k → (k : Int) < r.2 → a.getD k 0 = 1) ∧ Cov a n r.2 l
theorem betw_cov {a : List Int} {n : Nat} : ∀ (xs : List Int) (u : Int), 0 ≤ u → u ≤ n → (∀ x, x ∈ xs → u ≤ x ∧ x ≤ n ∧ a.getD x.toNat 0 ≠ 1) → xs.Pairwise (· < ·) → (∀ k : Nat, u < k → k ≤ n → a.getD k 0 ≠ 1 → (k : Int) ∈ xs) → Cov a n u (betw u (xs ++ [(n : Int)]))
  | [], u, h0, h1, _, _, h4 => by
    show Cov a n u (if u < (n : Int) then (u, (n : Int)) :: betw n [] else betw u [])
    split
    · refine ⟨rfl, by assumption, Int.le_refl _, fun h => absurd rfl h, fun k hk hk2 => ?_, rfl⟩
      have hk2 : (k : Int) < n := hk2
      cases hd : decide (a.getD k 0 = 1) with
      | true => exact of_decide_eq_true hd
      | false => have := h4 k hk (by omega) (of_decide_eq_false hd); cases this
    · show u = n
      omega
  | x :: xs, u, h0, h1, h2, h3, h4 => by
    rw [List.pairwise_cons] at h3
    obtain ⟨h5, h6, h7⟩ := h2 x (List.mem_cons_self ..)
    have ih := betw_cov (a := a) (n := n) xs x (by omega) h6 (fun y hy => ⟨by have := h3.1 y hy; omega, (h2 y (List.mem_cons_of_mem _ hy)).2⟩) h3.2 (fun k hk hk2 hk3 => by
      rcases List.mem_cons.1 (h4 k (by omega) hk2 hk3) with h | h
      · omega
      · exact h)
    show Cov a n u (if u < x then (u, x) :: betw x (xs ++ [(n : Int)]) else betw u (xs ++ [(n : Int)]))
    split
    · refine ⟨rfl, by assumption, h6, fun _ => h7, fun k hk hk2 => ?_, ih⟩
      have hk2 : (k : Int) < x := hk2
      cases hd : decide (a.getD k 0 = 1) with
      | true => exact of_decide_eq_true hd
      | false =>
        rcases List.mem_cons.1 (h4 k hk (by omega) (of_decide_eq_false hd)) with h | h
        · omega
        · have := h3.1 _ h; omega
    · have : u = x := by omega
      rw [this]
      exact ih
theorem parts_cov {p : PropD} {t : TabD} {text : List Int} (hV : ValidP t) : Cov (ActionsR t (clsD p t text)) text.length 0 (partsD p t text) := by
  unfold partsD
  rw [tt_t hV, cond_true]
  have hl := acts_length (p := p) (text := text) hV
  unfold cutsD boundsD endsD
  generalize ActionsR t (clsD p t text) = a at hl ⊢
  refine betw_cov _ 0 (Int.le_refl _) (by omega) (fun x hx => ?_) (endsTo_asc _ _) (fun k hk hk2 hk3 => endsTo_mem.2 ⟨k, rfl, ?_, hk3⟩)
  · obtain ⟨k, rfl, h1, h2⟩ := endsTo_mem.1 hx
    exact ⟨by omega, by omega, h2⟩
  · omega
end Go.Cx
set_option linter.unusedSimpArgs false
set_option linter.unusedVariables false
namespace Go.Cx
theorem SlSp.read {T : Tab} {int span ts : TypeId} {fs : Array Field} {h : CH} {v : Value} {l : List SpanD} {i : Nat} {x : SpanD} (hwf : h.wf) (hu : T.und span = some (.struct fs)) (hs : T.size span = some 3) (hts : T.und ts = some (.slice span)) (hi : T.und int = some (.int .i64)) (hv : SlSp T span h v l) (hr : l[i]? = some x) (kk : IntKind) :
    ∃ b o, cindexAddr T ts v (.int kk (i : Int)) = some (.pointer (some ⟨b, o, none⟩)) ∧ ∀ h', Gr h h' → cload T h' int (.pointer (some ⟨b, o, none⟩)) = some (.int .i64 x.lo) ∧ cload T h' int (.pointer (some ⟨b, o + 1, none⟩)) = some (.int .i64 x.hi) ∧ cload T h' int (.pointer (some ⟨b, o + 2, none⟩)) = some (.int .i64 x.value) := by
  obtain ⟨hl, a, c, rfl, h2⟩ := hv
  have hx : (l.map spanV)[i]? = some (spanV x) := by rw [List.getElem?_map, hr]; rfl
  obtain ⟨b, o, cs, ro, fz, s, rfl, k2, k3, k4⟩ := h2 i _ hx
  rw [hs] at k2
  cases k2
  rw [cpart_agg hu hs] at k4
  obtain ⟨l', h5, h6⟩ := omap k4
  have h7 : l' = [.int .i64 x.lo, .int .i64 x.hi, .int .i64 x.value] := by
    unfold spanV at h6
    simp only [Value.agg.injEq] at h6
    have := congrArg Array.toList h6
    simpa using this
  subst h7
  have hlt : i < (l.map spanV).length := (List.getElem?_eq_some_iff.1 hx).1
  obtain ⟨h8, h9⟩ := lsub_some _ _ _ _ h5
  have hget : ∀ j y, [Value.int .i64 x.lo, .int .i64 x.hi, .int .i64 x.value][j]? = some y → cs[o + i * 3 + j]? = some y := by
    intro j y hy
    rw [h9, List.getElem?_take] at hy
    split at hy
    · rwa [List.getElem?_drop] at hy
    · cases hy
  refine ⟨b, o + i * 3, ?_, fun h' g => ?_⟩
  · unfold cindexAddr
    rw [hts]
    simp only [Option.bind_some, rowOf, natOf_cast, hs]
    rw [(nble _ _).2 hlt]
    rfl
  · have hg := g.at hwf k3
    refine ⟨cload_of hg ?_, cload_of hg ?_, cload_of hg ?_⟩
    · rw [cpart_one hi rfl]; exact hget 0 _ rfl
    · rw [cpart_one hi rfl]; exact hget 1 _ rfl
    · rw [cpart_one hi rfl]; exact hget 2 _ rfl
theorem PropV.one {T : Tab} {str span : TypeId} {h : CH} {c s : Value} {p : PropD} (hv : PropV T str span h (.agg #[c, s]) p) : isOne c = true ∧ isOne s = true ∧ SlS T str h c p.names ∧ SlSp T span h s p.spans := by
  obtain ⟨c', s', he, h1, h2, h3, h4⟩ := hv
  cases he
  exact ⟨h1, h2, h3, h4⟩
end Go.Cx
set_option linter.unusedSimpArgs false
set_option linter.unusedVariables false
namespace Go.Cx
theorem cconv_u64 {T : Tab} {h : CH} {s d : TypeId} {n : Nat} (hs : T.und s = some (.int .i64)) (hd : T.und d = some (.int .u64)) (hn : n < 9223372036854775808) : cconv T h s d (.int .i64 (n : Int)) = some (.int .u64 (n : Int)) := by
  unfold cconv
  rw [hs, hd]
  show some (Value.int .u64 (IntKind.wrap .u64 (n : Int))) = _
  have : IntKind.wrap .u64 (n : Int) = (n : Int) := by
    simp only [IntKind.wrap, IntKind.bits, IntKind.signed]
    simp
    omega
  rw [this]
theorem cconv_i64 {T : Tab} {h : CH} {s d : TypeId} {n : Nat} (hs : T.und s = some (.int .u64)) (hd : T.und d = some (.int .i64)) (hn : n < 9223372036854775808) : cconv T h s d (.int .u64 (n : Int)) = some (.int .i64 (n : Int)) := by
  unfold cconv
  rw [hs, hd]
  show some (Value.int .i64 (IntKind.wrap .i64 (n : Int))) = _
  rw [wrap_nat hn]
theorem cbin_half {T : Tab} {h : CH} {t : TypeId} {xo yo : Operand} {k : IntKind} {n : Nat} : cbin T h .shr t xo yo (.int .u64 (n : Int)) (.int k 1) = some (.int .u64 ((n / 2 : Nat) : Int)) := by
  have key : pureV (Op.shift .shr .u64 (n : Int) k 1) = some (.int .u64 ((n / 2 : Nat) : Int)) := by
    unfold Op.shift
    rw [if_neg (by omega)]
    show some (Value.int .u64 ((n : Int).fdiv (2 ^ (min (1 : Int).toNat IntKind.u64.bits)))) = _
    congr 2
    have : ((2 : Int) ^ (min (1 : Int).toNat IntKind.u64.bits)) = 2 := by decide
    rw [this, Int.fdiv_eq_ediv_of_nonneg _ (by decide)]
    omega
  show cond (decide (IntKind.u64 = k)) (pureV (Op.shift .shr .u64 (n : Int) k 1)) (pureV (Op.shift .shr .u64 (n : Int) k 1)) = _
  rw [key]
  cases decide (IntKind.u64 = k) <;> rfl
theorem pops.conv {X : Cxt} {rnd : Bool} {ops : List Oper} {o : Oper} {l : List Oper} {n : Nat} {tm : PT Value} {ds : List Deferred} {rc : Option FrameMode} {h : CH} {Q : KP} {d : Nat} {s t : TypeId} {x : Operand} {u v : Value} (hw : cwant ops tm o = some true) (ho : o.op = .convert s t x) (hx : ev tm x = some u) (hd : o.dst = some d) (hl : Nat.ble (d + 1) n = true) (hv : cconv X.T h s t u = some v)
    (hn : pops X rnd ops l ⟨n, tm.set v d, ds, rc⟩ h Q) : pops X rnd ops (o :: l) ⟨n, tm, ds, rc⟩ h Q :=
  pops.fl hw (by rw [ho]; rfl) (by unfold cfl; simp only [ho, hx, Option.bind_some, hv]) hd hl hn
def esTo (l : List ByteArray) (i : Nat) : List (ByteArray × Value) := ((l.take i).zipIdx 0).map fun p => (p.1, Value.int .i64 (p.2 : Int))
theorem esTo_zero (l : List ByteArray) : esTo l 0 = [] := by simp [esTo]
theorem esTo_succ {l : List ByteArray} {i : Nat} {s : ByteArray} (hs : l[i]? = some s) : esTo l (i + 1) = esTo l i ++ [(s, .int .i64 (i : Int))] := by
  have hi := (List.getElem?_eq_some_iff.1 hs).1
  unfold esTo
  rw [List.take_add_one, hs, Option.toList_some, List.zipIdx_append, List.map_append]
  congr 1
  simp [Nat.min_eq_left (Nat.le_of_lt hi)]
theorem hasKey_zip {k : ByteArray} : ∀ (l : List ByteArray) (m : Nat), hasKey k ((l.zipIdx m).map fun p => (p.1, Value.int .i64 (p.2 : Int))) = l.any fun x => bytesBeq k.data.toList x.data.toList
  | [], m => rfl
  | x :: l, m => by
    rw [List.zipIdx_cons, List.map_cons, List.any_cons, ← hasKey_zip l (m + 1)]
    rfl
theorem esTo_new {l : List ByteArray} {i : Nat} {s : ByteArray} (hs : l[i]? = some s) (hd : ∀ (j k : Nat) a b, j < k → l[j]? = some a → l[k]? = some b → bytesBeq a.data.toList b.data.toList = false) : hasKey s (esTo l i) = false := by
  unfold esTo
  rw [hasKey_zip, List.any_eq_false]
  intro x hx
  obtain ⟨j, hj⟩ := List.mem_iff_getElem?.1 hx
  rw [List.getElem?_take] at hj
  split at hj
  · rename_i hji
    rw [bytesBeq_comm, hd j i x s hji hj hs]
    decide
  · cases hj
theorem findE_idx {T : Tab} {h : CH} {kt : TypeId} {k : ByteArray} (hk : T.und kt = some .string) : ∀ (l : List ByteArray) (n i m : Nat), findE T h kt (.string k) (mkE n ((l.zipIdx m).map fun p => (p.1, Value.int .i64 (p.2 : Int)))) i = some ((l.findIdx? (eqB k)).map fun j => (i + j, Value.int .i64 ((m + j : Nat) : Int)))
  | [], n, i, m => rfl
  | x :: l, n, i, m => by
    have hc : ceq T h kt (.string k) (.string x) = some (bytesBeq k.data.toList x.data.toList) := by
      unfold ceq; rw [hk]; rfl
    rw [List.zipIdx_cons, List.map_cons]
    have hf : ∀ es, findE T h kt (.string k) (mkE n ((x, Value.int .i64 (m : Int)) :: es)) i = (ceq T h kt (.string k) (.string x)).bind fun r => cond r (some (some (i, Value.int .i64 (m : Int)))) (findE T h kt (.string k) (mkE (n + 1) es) (i + 1)) := fun es => rfl
    rw [hf, hc, findE_idx hk l (n + 1) (i + 1) (m + 1), List.findIdx?_cons]
    have he : eqB k x = bytesBeq k.data.toList x.data.toList := by unfold eqB; rw [bytesBeq_comm]
    rw [he]
    cases bytesBeq k.data.toList x.data.toList with
    | true => simp
    | false =>
      simp only [Option.bind_some, cond_false]
      cases l.findIdx? (eqB k) with
      | none => simp
      | some j => simp; omega
theorem clookup_idx {T : Tab} {h : CH} {t kt et : TypeId} {b c : Nat} {k : ByteArray} {l : List ByteArray} (hu : T.und t = some (.map kt et)) (hk : T.und kt = some .string) (hz : zeroOf T et = some (.int .i64 0)) (hg : h.get b = some (.map (mkE 0 (esTo l l.length)) c)) :
    clookup T h t (.map (some b)) (.string k) false = some (.int .i64 (idxD l k : Int)) := by
  have hf := findE_idx (T := T) (h := h) (kt := kt) (k := k) hk l 0 0 0
  unfold esTo at hg
  rw [List.take_length] at hg
  unfold clookup
  simp only [hu, keyOk, hk, cond_true, mapOf, hg, Option.bind_some, hf]
  unfold idxD
  cases l.findIdx? (eqB k) with
  | none => simp only [Option.map_none, hz, Option.map_some]; rfl
  | some j => simp [okPair]
def cmpD (k : Int) (x : SpanD) : Int := if k < x.lo then 1 else if x.hi < k then -1 else 0
def SortedD (l : List SpanD) : Prop := (∀ (i j : Nat) a b, i < j → l[i]? = some a → l[j]? = some b → a.hi < b.lo) ∧ ∀ x, x ∈ l → x.lo ≤ x.hi
theorem sorted_of {p : PropD} (hP : PropP p) : SortedD p.spans := by
  refine ⟨fun i j a b hij ha hb => prop_lt hP hij ha hb, fun x hx => ?_⟩
  obtain ⟨i, hi⟩ := List.mem_iff_getElem?.1 hx
  exact (hP.2 i x hi).2.1
theorem cmp_lt {k : Int} {x : SpanD} (hx : x.lo ≤ x.hi) : cmpD k x < 0 ↔ x.hi < k := by
  unfold cmpD
  split
  · constructor
    · intro h; omega
    · intro h; omega
  · split
    · constructor
      · intro _; assumption
      · intro _; decide
    · constructor
      · intro h; omega
      · intro h; omega
theorem cmp_eq {k : Int} {x : SpanD} : cmpD k x = 0 ↔ insideB k x = true := by
  unfold cmpD insideB
  rw [Bool.and_eq_true, decide_eq_true_iff, decide_eq_true_iff]
  split
  · constructor
    · intro h; omega
    · intro h; omega
  · split
    · constructor
      · intro h; omega
      · intro h; omega
    · constructor
      · intro _; omega
      · intro _; rfl
theorem half_no {l : List SpanD} {k : Int} {i : Nat} (hS : SortedD l) (h1 : ∀ (m : Nat) x, m < i → l[m]? = some x → x.hi < k) (h2 : ∀ x, l[i]? = some x → k ≤ x.hi ∧ insideB k x = false) : ∀ x, x ∈ l → insideB k x = false := by
  intro x hx
  obtain ⟨m, hm⟩ := List.mem_iff_getElem?.1 hx
  unfold insideB
  rcases Nat.lt_trichotomy m i with h | h | h
  · have := h1 m x h hm
    rw [decide_eq_false (p := k ≤ x.hi) (by omega), Bool.and_false]
  · subst h
    exact (h2 x hm).2
  · obtain ⟨y, hy⟩ : ∃ y, l[i]? = some y := ⟨_, List.getElem?_eq_getElem (by have := (List.getElem?_eq_some_iff.1 hm).1; omega)⟩
    obtain ⟨h3, h4⟩ := h2 y hy
    have h5 := hS.1 i m y x h hy hm
    have h6 := hS.2 y (List.mem_of_getElem? hy)
    rw [decide_eq_false (p := x.lo ≤ k) (by omega)]
    rfl
end Go.Cx
set_option linter.unusedSimpArgs false
set_option linter.unusedVariables false
namespace Go.Cx
section
variable {X : Cxt} {ops : List Oper} {ms : List OpM} {all : Nat} {Q : KP} {h : CH} {o : Oper} {L n M d : Nat} {tm : PT Value} {ds : List Deferred} {rc : Option FrameMode} {hd : List Held}
def pdx (X : Cxt) (ops : List Oper) (ms : List OpM) (all M : Nat) (i : Nat) (o : Oper) (s : Stage) (h : CH) (Q : KP) : Prop :=
  p1e X ops o s.a.tm h fun v h' => ∃ held, Reck X.T (maskOf ms i) h' s.held held ∧ pdg X ops ms all Q (M + 1) { listed := Nat.lor s.listed (2 ^ i), a := s.a.put o.dst v, held := held } h'
theorem pd1.two (i j : Nat) {o o' : Oper} {s : Stage} (hlo : lget ops i = some o) (hlo' : lget ops j = some o') (hr : readyE ops ms 0 s.listed = [(i, o), (j, o')]) (h1 : pdx X ops ms all M i o s h Q) (h2 : pdx X ops ms all M j o' s h Q) : pd1 X ops ms all (pdg X ops ms all Q (M + 1)) s h Q := by
  unfold pd1; rw [hr]
  intro x hx
  rcases List.mem_cons.1 hx with rfl | hx
  · exact h1
  · rcases List.mem_cons.1 hx with rfl | hx
    · exact h2
    · cases hx
theorem pdx.callR (i : Nat) {c : Call} {f : FuncId} {fn : Func} {first cap : Array Value} {args ar : List Value} {x : Operand} (hw : cwant ops tm o = some true) (ho : o.op = .call c) (hc : c.callee = .value x) (hx : ev tm x = some (.func (.func f) first cap)) (ha : evs tm c.args.toList = some args) (hf : X.T.fn f = some fn)
    (hd' : o.dst = some d) (hl : Nat.ble (d + 1) n = true) (hall : first.toList ++ args ++ cap.toList = ar)
    (hn : CalF X f ar h fun r h' => ∃ v, r = .ret v ∧ ∃ held, Reck X.T (maskOf ms i) h' hd held ∧ PG X ops ms all M Q ops ms 0 ⟨Nat.lor L (2 ^ i), ⟨n, tm.set v d, ds, rc⟩, held⟩ h') : pdx X ops ms all M i o ⟨L, ⟨n, tm, ds, rc⟩, hd⟩ h Q := by
  subst hall
  unfold pdx p1e
  have hv : cop X.T tm h o = .call (.fn f (first.toList ++ args ++ cap.toList)) := by unfold cop; simp only [ho, ccallO, hc, hx, ha, COut.of, ccallee, hf]
  simp only [hw, hv]
  refine hn.mono fun r h' hh => ?_
  obtain ⟨v, rfl, held, h1, h2⟩ := hh
  refine ⟨v, rfl, held, h1, ?_⟩
  rw [hd', put_mk hl]
  exact h2
theorem pdx.buildSlice (i : Nat) {t : TypeId} {len : Nat} {parts : Array (Nat × Operand)} {cs : List Value} (hw : cwant ops tm o = some true) (ho : o.op = .buildSlice t len parts) (hv : cbuildSlice X.T tm h t len parts.toList = hnew h (.cells cs false false) fun b => .slice (some ⟨b, 0, none⟩) len len) (hd' : o.dst = some d) (hl : Nat.ble (d + 1) n = true) (hwf : h.wf)
    (hk : ∀ b h', h.n ≤ b → h'.wf → Gr h h' → h'.get b = some (.cells cs false false) → ∃ held, Reck X.T (maskOf ms i) h' hd held ∧ PG X ops ms all M Q ops ms 0 ⟨Nat.lor L (2 ^ i), ⟨n, tm.set (.slice (some ⟨b, 0, none⟩) len len) d, ds, rc⟩, held⟩ h') : pdx X ops ms all M i o ⟨L, ⟨n, tm, ds, rc⟩, hd⟩ h Q := by
  obtain ⟨held, h1, h2⟩ := hk h.n _ (Nat.le_refl _) (CH.wf_push hwf (.cells cs false false)) (Gr.push _ _) (by rw [CH.get_push, if_pos rfl])
  unfold pdx p1e
  have hv' : cop X.T tm h o = .val (.slice (some ⟨h.n, 0, none⟩) len len) (h.push (.cells cs false false)) := by unfold cop; simp only [ho, hv, hnew]
  simp only [hw, hv']
  refine ⟨held, h1, ?_⟩
  rw [hd', put_mk hl]
  exact h2
end
end Go.Cx
set_option linter.unusedSimpArgs false
set_option linter.unusedVariables false
namespace Go.Cx
structure TwoD where
  p : PropD
  q : PropD
  a : List Int
  b : List Int
def TwoV (T : Tab) (int str span : TypeId) (h : CH) (v : Value) (x : TwoD) : Prop :=
  ∃ c s c' s' a b, v = .agg #[c, s, c', s', a, b] ∧ (isOne a && isOne b) = true ∧ PropV T str span h (.agg #[c, s]) x.p ∧ PropV T str span h (.agg #[c', s']) x.q ∧ SlI T int h a x.a ∧ SlI T int h b x.b
theorem TwoV.gr {T : Tab} {int str span : TypeId} {h h' : CH} {v : Value} {x : TwoD} (hv : TwoV T int str span h v x) (hw : h.wf) (g : Gr h h') : TwoV T int str span h' v x := by
  obtain ⟨c, s, c', s', a, b, h1, h2, h3, h4, h5, h6⟩ := hv
  exact ⟨c, s, c', s', a, b, h1, h2, h3.gr hw g, h4.gr hw g, Sl.gr h5 hw g, Sl.gr h6 hw g⟩
section
variable {H : Type} {T : Tab} {h : CH}
theorem two_arg {int str span strs spans prop ints two : TypeId} {fs : Array Field} (ht : PropTys T int str span strs spans prop) (hints : T.und ints = some (.slice int)) (hsint : T.size int = some 1) (hu : T.und two = some (.struct fs)) (hf : fs.toList.map (·.type) = [prop, prop, ints, ints]) {cv : Value} {d : DataW H} (hh : Has T h two cv.cells.toList d) :
    ∃ x, TwoV T int str span h cv x ∧ (∀ s, s ∈ x.p.names → s.data.toList.length < 9223372036854775808) ∧ ∀ s, s ∈ x.q.names → s.data.toList.length < 9223372036854775808 := by
  obtain ⟨xs, h3⟩ := struct_of hu hh
  obtain ⟨c1, c2, c3, c4, d1, d2, d3, d4, hcs, h4, h5, h6, h7⟩ := four_of hf h3
  obtain ⟨c, s, p, rfl, hp, hpl⟩ := propC_of ht h4
  obtain ⟨c', s', q, rfl, hq, hql⟩ := propC_of ht h5
  obtain ⟨a, la, rfl, o1, ha⟩ := ints_of hints hsint ht.hint h6
  obtain ⟨b, lb, rfl, o2, hb⟩ := ints_of hints hsint ht.hint h7
  have : cv = .agg #[c, s, c', s', a, b] := by
    cases cv
    case agg a' =>
      simp only [Value.cells] at hcs
      congr 1
      apply Array.toList_inj.1
      rw [hcs]
      rfl
    all_goals (simp [Value.cells] at hcs)
  subst this
  exact ⟨⟨p, q, la, lb⟩, ⟨c, s, c', s', a, b, rfl, by rw [o1, o2]; rfl, hp, hq, ha, hb⟩, hpl, hql⟩
end
end Go.Cx
set_option linter.unusedSimpArgs false
set_option linter.unusedVariables false
namespace Go.Cx
theorem SlR.read {T : Tab} {int rng ts : TypeId} {fs : Array Field} {h : CH} {v : Value} {l : List RangeD} {i : Nat} {x : RangeD} (hwf : h.wf) (hu : T.und rng = some (.struct fs)) (hs : T.size rng = some 2) (hts : T.und ts = some (.slice rng)) (hi : T.und int = some (.int .i64)) (hv : SlR T rng h v l) (hr : l[i]? = some x) (kk : IntKind) :
    ∃ b o, cindexAddr T ts v (.int kk (i : Int)) = some (.pointer (some ⟨b, o, none⟩)) ∧ ∀ h', Gr h h' → cload T h' int (.pointer (some ⟨b, o, none⟩)) = some (.int .i64 x.1) ∧ cload T h' int (.pointer (some ⟨b, o + 1, none⟩)) = some (.int .i64 x.2) := by
  obtain ⟨hl, a, c, rfl, h2⟩ := hv
  have hx : (l.map rangeV)[i]? = some (rangeV x) := by rw [List.getElem?_map, hr]; rfl
  obtain ⟨b, o, cs, ro, fz, s, rfl, k2, k3, k4⟩ := h2 i _ hx
  rw [hs] at k2
  cases k2
  rw [cpart_agg hu hs] at k4
  obtain ⟨l', h5, h6⟩ := omap k4
  have h7 : l' = [.int .i64 x.1, .int .i64 x.2] := by
    unfold rangeV at h6
    simp only [Value.agg.injEq] at h6
    have := congrArg Array.toList h6
    simpa using this
  subst h7
  have hlt : i < (l.map rangeV).length := (List.getElem?_eq_some_iff.1 hx).1
  obtain ⟨h8, h9⟩ := lsub_some _ _ _ _ h5
  have hget : ∀ j y, [Value.int .i64 x.1, .int .i64 x.2][j]? = some y → cs[o + i * 2 + j]? = some y := by
    intro j y hy
    rw [h9, List.getElem?_take] at hy
    split at hy
    · rwa [List.getElem?_drop] at hy
    · cases hy
  refine ⟨b, o + i * 2, ?_, fun h' g => ?_⟩
  · unfold cindexAddr
    rw [hts]
    simp only [Option.bind_some, rowOf, natOf_cast, hs]
    rw [(nble _ _).2 hlt]
    rfl
  · have hg := g.at hwf k3
    refine ⟨cload_of hg ?_, cload_of hg ?_⟩
    · rw [cpart_one hi rfl]; exact hget 0 _ rfl
    · rw [cpart_one hi rfl]; exact hget 1 _ rfl
theorem cov_step {a : List Int} {n u : Int} {L : List RangeD} {i : Nat} {r : RangeD} (hc : Cov a n u (L.drop i)) (hr : L[i]? = some r) : r.1 = u ∧ u < r.2 ∧ r.2 ≤ n ∧ (i + 1 < L.length → a.getD r.2.toNat 0 ≠ 1) ∧ (∀ k : Nat, u < k → (k : Int) < r.2 → a.getD k 0 = 1) ∧ Cov a n r.2 (L.drop (i + 1)) := by
  obtain ⟨hi, rfl⟩ := List.getElem?_eq_some_iff.1 hr
  rw [List.drop_eq_getElem_cons hi] at hc
  obtain ⟨h1, h2, h3, h4, h5, h6⟩ := hc
  refine ⟨h1, h2, h3, fun hlt => h4 ?_, h5, h6⟩
  intro he
  have := List.drop_eq_nil_iff.1 he
  omega
end Go.Cx