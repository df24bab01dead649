/- The canonical executor: soundness of code, calls and closed runs. Conditions: none. -/
import Derived.Test.YtpcoponpfhnhlaaGreatDoorCxB
import Derived.Orders
import Derived.RangeFuncIn
import Derived.Defers
set_option linter.unusedSimpArgs false
set_option linter.unusedVariables false
namespace Go.Cx
open Go.RowKit (Below)
def Wr (ops : Array Oper) (i t : Nat) : Prop := ∃ o, ops[i]? = some o ∧ o.dst = some t
def LastI (ops : Array Oper) (n : Nat) (C : Nat → Prop) (val : Nat → Value) (g0 g : Nat → Option Value) : Prop :=
  ∀ t, t < n → (∀ i, C i → Wr ops i t → (∀ k, C k → Wr ops k t → k ≤ i) → g t = some (val i)) ∧ ((∀ i, C i → ¬ Wr ops i t) → g t = g0 t)
theorem max_of {p : Nat → Prop} : ∀ (N : Nat), (∀ i, p i → i < N) → (∃ i, p i) → ∃ i, p i ∧ ∀ k, p k → k ≤ i
  | 0, hb, ⟨i, hi⟩ => absurd (hb i hi) (Nat.not_lt_zero i)
  | N + 1, hb, hx => by
    by_cases hN : p N
    · exact ⟨N, hN, fun k hk => by have := hb k hk; omega⟩
    · exact max_of N (fun i hi => by
        have := hb i hi
        rcases Nat.lt_or_ge i N with h | h
        · exact h
        · exact absurd ((show i = N by omega) ▸ hi) hN) hx
variable {ops : Array Oper} {n : Nat} {C D : Nat → Prop} {val : Nat → Value} {g0 g : Nat → Option Value}
def vup (val : Nat → Value) (j : Nat) (v : Value) : Nat → Value := fun i => if i = j then v else val i
theorem vup_ne {j i : Nat} {v : Value} (h : i ≠ j) : vup val j v i = val i := if_neg h
theorem vup_eq {j : Nat} {v : Value} : vup val j v j = v := if_pos rfl
theorem LastI.congr (h : LastI ops n C val g0 g) {val' : Nat → Value} (hv : ∀ i, C i → val' i = val i) : LastI ops n C val' g0 g :=
  fun t ht => ⟨fun i hi hw hm => by rw [hv i hi]; exact (h t ht).1 i hi hw hm, (h t ht).2⟩
theorem LastI.put (h : LastI ops n C val g0 g) {j : Nat} {o : Oper} (hj : ¬ C j) (ho : ops[j]? = some o) (hl : ∀ t i, o.dst = some t → C i → Wr ops i t → i < j) {v : Value} {g' : Nat → Option Value}
    (hg : ∀ t, t < n → g' t = if o.dst = some t then some v else g t) : LastI ops n (fun i => C i ∨ i = j) (vup val j v) g0 g' := by
  intro t ht
  rw [hg t ht]
  have hwj : Wr ops j t ↔ o.dst = some t := ⟨fun ⟨o', h1, h2⟩ => by rw [ho] at h1; cases h1; exact h2, fun h1 => ⟨o, ho, h1⟩⟩
  refine ⟨fun i hi hw hm => ?_, fun hno => ?_⟩
  · by_cases hd : o.dst = some t
    · rw [if_pos hd]
      have h1 := hm j (.inr rfl) (hwj.2 hd)
      rcases hi with hi | rfl
      · have := hl t i hd hi hw
        omega
      · rw [vup_eq]
    · rw [if_neg hd]
      rcases hi with hi | rfl
      · rw [vup_ne (i := i) (j := j) (fun e => hj (e ▸ hi))]
        exact (h t ht).1 i hi hw fun k hk hwk => hm k (.inl hk) hwk
      · exact absurd (hwj.1 hw) hd
  · have hd : o.dst ≠ some t := fun hd => hno j (.inr rfl) (hwj.2 hd)
    rw [if_neg hd]
    exact (h t ht).2 fun i hi => hno i (.inl hi)
structure Rdy (ms : List OpM) (C : Nat → Prop) (j : Nat) (m : OpM) : Prop where
  cl : Closed ms C
  mem : ms[j]? = some m
  out : ¬ C j
  deps : ∀ e, e ∈ m.deps → C e
section
variable {ms : List OpM} {j : Nat} {m : OpM} {o : Oper}
theorem Rdy.looks (hd : Drawn ops ms) (h : Rdy ms C j m) (ho : ops[j]? = some o) {t : Nat} (ht : tb (Cx.looks ops.toList o) t = true) {i : Nat} (hw : Wr ops i t) : C i ↔ i < j := by
  obtain ⟨oi, hoi, hdi⟩ := hw
  obtain ⟨mi, hmi, oki⟩ := hd.ok i oi hoi
  obtain ⟨mj, hmj, okj⟩ := hd.ok j o ho
  have := h.mem
  rw [hmj] at this
  cases this
  rcases Nat.lt_trichotomy i j with hij | hij | hij
  · refine ⟨fun _ => hij, fun _ => ?_⟩
    rcases (hd.pair j _ hmj).2 i mi hmi hij with h1 | h1
    · exact h.cl.before hd (j + 1) j _ (by omega) hmj h.deps i h1
    · have := h1.1 t (by rw [oki.dst]; exact hdi)
      rw [okj.looks, ht] at this
      cases this
  · subst hij
    exact ⟨fun hc => absurd hc h.out, fun hl => absurd hl (Nat.lt_irrefl _)⟩
  · refine ⟨fun hc => ?_, fun hl => by omega⟩
    rcases (hd.pair i _ hmi).2 j m hmj hij with h1 | h1
    · exact absurd (h.cl.before hd (i + 1) i _ (by omega) hmi (h.cl i mi hc hmi) j h1) h.out
    · have := h1.2.2 t (by rw [oki.dst]; exact hdi)
      rw [okj.looks, ht] at this
      cases this
theorem Rdy.dst (hd : Drawn ops ms) (h : Rdy ms C j m) (ho : ops[j]? = some o) (t i : Nat) (ht : o.dst = some t) (hc : C i) (hw : Wr ops i t) : i < j := by
  obtain ⟨oi, hoi, hdi⟩ := hw
  obtain ⟨mi, hmi, oki⟩ := hd.ok i oi hoi
  obtain ⟨mj, hmj, okj⟩ := hd.ok j o ho
  have := h.mem
  rw [hmj] at this
  cases this
  rcases Nat.lt_trichotomy i j with hij | hij | hij
  · exact hij
  · subst hij; exact absurd hc h.out
  · rcases (hd.pair i _ hmi).2 j m hmj hij with h1 | h1
    · exact absurd (h.cl.before hd (i + 1) i _ (by omega) hmi (h.cl i mi hc hmi) j h1) h.out
    · exact absurd (by rw [oki.dst]; exact hdi) (h1.2.1 t (by rw [okj.dst]; exact ht))
theorem last_eq {e : Env} {C' : Nat → Prop} {val' : Nat → Value} {g0' g' : Nat → Option Value} (h : LastI ops n C val g0 g) (h' : LastI ops n C' val' g0' g') {t N : Nat} (ht : t < n) (hN : ∀ i, C i → i < N)
    (hs : ∀ i, Wr ops i t → (C i ↔ C' i)) {Q : Option Value → Option Value → Prop} (h0 : Q (g0 t) (g0' t)) (hv : ∀ i, C i → C' i → Q (some (val i)) (some (val' i))) : Q (g t) (g' t) := by
  by_cases hx : ∃ i, C i ∧ Wr ops i t
  · obtain ⟨i, ⟨h1, h2⟩, h3⟩ := max_of (p := fun i => C i ∧ Wr ops i t) N (fun i hi => hN i hi.1) hx
    rw [(h t ht).1 i h1 h2 fun k hk hw => h3 k ⟨hk, hw⟩, (h' t ht).1 i ((hs i h2).1 h1) h2 fun k hk hw => h3 k ⟨(hs k hw).2 hk, hw⟩]
    exact hv i h1 ((hs i h2).1 h1)
  · rw [(h t ht).2 fun i hi hw => hx ⟨i, hi, hw⟩, (h' t ht).2 fun i hi hw => hx ⟨i, (hs i hw).2 hi, hw⟩]
    exact h0
end
structure Same (P : Program) (T : Tab) (e : Env) (n : Nat) (ops : Array Oper) (o : Oper) (tm : PT Value) (ra : Act) (tmL : PT Value) (raL : Act) : Prop where
  tr : TR e n tmL raL.tmps
  fl : ∀ h, cfl T tmL h o = cfl T tm h o
  op : ∀ h, cop T tmL h o = cop T tm h o
  want : cwant ops.toList tmL o = cwant ops.toList tm o
  exec : (∀ cs b, o.op ≠ .select cs b) → execOp raL.eval o = execOp ra.eval o
  wanted : Region.wanted o (yielded ops raL.tmps) = Region.wanted o (yielded ops ra.tmps)
theorem same_of {P : Program} {T : Tab} {e : Env} {o : Oper} {tm : PT Value} {ra : Act} (hsz : ra.tmps.size = n) (hlt : ∀ t v, tm.get t = some v → t < n)
    (hv : ∀ t v', tb (looks ops.toList o) t = true → ra.tmps[t]? = some v' → VR e ((tm.get t).getD undefV) v') : ∃ tmL raL, Same P T e n ops o tm ra tmL raL := by
  let p : Nat → Bool := fun t => tb (looks ops.toList o) t
  refine ⟨PT.cut p tm n, { ra with tmps := ra.tmps.mapIdx fun t v => if p t then v else undef }, ?_⟩
  have hget : ∀ t, p t = true → (PT.cut p tm n).get t = tm.get t := by
    intro t ht
    rw [PT.get_cut]
    by_cases hl : t < n
    · simp [hl, ht]
    · simp only [hl, false_and, if_false]
      cases hg : tm.get t with
      | none => rfl
      | some v => exact absurd (hlt t v hg) hl
  have hrget : ∀ t, p t = true → (ra.tmps.mapIdx fun t v => if p t then v else undef)[t]? = ra.tmps[t]? := by
    intro t ht
    rw [Array.getElem?_mapIdx]
    cases ra.tmps[t]? <;> simp [ht]
  have hev : ∀ x, x ∈ o.op.operands.toList → ev (PT.cut p tm n) x = ev tm x := by
    intro x hx
    cases x with
    | tmp t => exact hget t (looks_op hx)
    | _ => rfl
  have hwant : cwant ops.toList (PT.cut p tm n) o = cwant ops.toList tm o := by
    unfold cwant
    cases hg : o.guard with
    | none => rfl
    | some q =>
      simp only
      cases hd : dstAt ops.toList q.1 with
      | none => rfl
      | some t =>
        simp only [Option.bind_some, guardOf]
        rw [hget t (looks_guard hg hd)]
  refine ⟨⟨by simp [hsz], fun t v ht => ?_, fun t v' ht => ?_⟩, fun h => cfl_congr hev, fun h => cop_congr hev, hwant, fun hs => execOp_congr o hs fun x hx => ?_, ?_⟩
  · rw [PT.get_cut] at ht
    split at ht
    · rename_i hh; exact hh.1
    · cases ht
  · simp only [Array.getElem?_mapIdx] at ht
    rw [PT.get_cut]
    cases hr : ra.tmps[t]? with
    | none => rw [hr] at ht; simp at ht
    | some u =>
      rw [hr] at ht
      simp only [Option.map_some, Option.some.injEq] at ht
      have hl : t < n := by rw [← hsz]; exact (Array.getElem?_eq_some_iff.1 hr).1
      cases hp : p t with
      | true =>
        rw [hp, if_pos rfl] at ht
        subst ht
        rw [if_pos ⟨hl, rfl⟩]
        exact hv t u hp hr
      | false =>
        rw [hp] at ht
        simp only [Bool.false_eq_true, if_false] at ht
        subst ht
        rw [if_neg (by simp)]
        exact VR.undef
  · cases x with
    | tmp t =>
      have := hrget t (looks_op (by simpa using hx))
      simp only [Act.eval, Array.getD_eq_getD_getElem?, this]
    | _ => rfl
  · unfold Region.wanted
    cases hg : o.guard with
    | none => rfl
    | some q =>
      obtain ⟨j, want⟩ := q
      simp only
      have : yielded ops (ra.tmps.mapIdx fun t v => if p t then v else undef) j = yielded ops ra.tmps j := by
        unfold yielded
        cases hd : (ops[j]?).bind (·.dst) with
        | none => rfl
        | some t =>
          simp only [Option.bind_some]
          rw [hrget t (looks_guard hg (by simp only [dstAt, lget_eq, Array.getElem?_toList]; exact hd))]
      rw [this]
section
variable {P : Program} {T : Tab} {B0 : Nat} {w0 w : World} {e : Env} {h : CH}
theorem c1e_sound (hT : TabOk P T) {cf : Callf} (hcf : CallOk P B0 w0 cf) {rnd : Bool} {fid : FuncId} {o : Oper} {i : Nat} {rest : List Nat} {tm tmL : PT Value} {ra raL : Act} {Kv : Value → CH → Bool} (ho : ops[i]? = some o)
    (hs : Same P T e n ops o tm ra tmL raL) (hc1 : c1e T cf ops.toList o tm h Kv = true) (hR : R B0 w0 e h w) {b : Frame} {k : List Item} {cs : List Frame} {rcs : Bool} (hb : FOk b fid rnd rcs) :
    ∃ v h' e' w' v', Kv v h' = true ∧ Ext e e' ∧ R B0 w0 e' h' w' ∧ VR e' v v' ∧ Steps P (lone (b.atR ra (.inRegion ops (i :: rest) :: k)) cs w) (lone (b.atR (ra.put o.dst v') (.inRegion ops rest :: k)) cs w') := by
  unfold c1e at hc1
  rw [← hs.want, ← hs.op] at hc1
  split at hc1
  · cases hc1
  · rename_i hw
    have hw := cwant_sound hs.tr hw
    rw [hs.wanted] at hw
    refine ⟨undefV, h, e, w, undef, hc1, Ext.refl e, hR, VR.undef, .one ?_⟩
    have := stepR_op_skip (P := P) (b := b) (a := ra) (k := k) (cs := cs) (w := w) (ops := ops) (i := i) (rest := rest) (by simp [ho, hw])
    rw [ho] at this
    exact this
  · rename_i hw
    have hw := cwant_sound hs.tr hw
    rw [hs.wanted] at hw
    have hco := cop_sound hT hR hs.tr o
    have hnd : (∀ d, cop T tmL h o ≠ .defer d) → cop T tmL h o ≠ .bad → ∀ c, o.op ≠ .defer c := by
      intro h1 h2 c hc
      have h3 : cop T tmL h o = cdefer T tmL c := by unfold cop; rw [hc]
      rw [h3] at h1 h2
      rcases cdefer_cases T tmL c with h4 | ⟨d, h4⟩
      · exact h2 h4
      · exact h1 d h4
    have hns : cop T tmL h o ≠ .bad → ∀ cs b, o.op ≠ .select cs b := by
      intro h1 cs b hc
      apply h1
      unfold cop
      rw [hc]
      unfold cfl
      rw [hc]
      rfl
    split at hc1
    · rename_i v h1 hout
      rw [hout] at hco hnd hns
      obtain ⟨e1, w1, g1, g2, g3⟩ := hco
      have hsem := semAt_of (b := b) (o := o) (a := ra) hb.ro (fun _ => hnd (by simp) (by simp))
      rw [← hs.exec (hns (by simp))] at hsem
      rcases g3 with ⟨v', g4, g5⟩ | ⟨g4, rfl⟩
      · exact ⟨v, h1, e1, w1, v', hc1, g1, g2, g5, .one (step_val ho hw (by rw [hsem]; exact g4))⟩
      · exact ⟨_, h1, e1, w1, undef, hc1, g1, g2, VR.undef, .one (step_skp ho hw (by rw [hsem]; exact g4))⟩
    · rename_i f args hout
      rw [hout] at hco hnd hns
      have hsem := semAt_of (b := b) (o := o) (a := ra) hb.ro (fun _ => hnd (by simp) (by simp))
      rw [← hs.exec (hns (by simp))] at hsem
      obtain ⟨args', g1, g2⟩ := hco
      obtain ⟨res, h', e', w', fr, en, k1, k2, k3, k4, k5, k6, k7⟩ := hcf.call f args h _ hc1 e w hR args' g2 (b.atR ra (.inRegion ops (i :: rest) :: k) :: cs)
      have hst := step_ent (P := P) (b := b) (k := k) (cs := cs) (rest := rest) ho hw (by rw [hsem]; exact g1)
      cases res with
      | ret v =>
        cases en with
        | returned v' =>
          have hl := step_leave_returned (c := b.atR ra (.inRegion ops (i :: rest) :: k)) (cs := cs) k7
          rw [fin_at ho] at hl
          exact ⟨v, h', e', w', v', k1, k2, k3, k4, (Steps.one hst).trans (k5.trans (.one hl))⟩
        | panicked _ => exact k4.elim
        | outgrown => exact k4.elim
      | panic ch => cases k1
    · cases hc1
end
end Go.Cx
set_option linter.unusedSimpArgs false
set_option linter.unusedVariables false
namespace Go.Cx
open Go.RowKit (Below)
theorem bytes_of {a b : ByteArray} (h : bytesBeq a.data.toList b.data.toList = true) : a = b := by
  have := (bytesBeq_iff _ _).1 h
  have := Array.toList_inj.1 this
  cases a; cases b; simp only at this; rw [this]
theorem same0_eq : ∀ {a b : Value}, same0 a b = true → a = b := by
  intro a b h
  unfold same0 at h
  split at h <;> (try simp only [Bool.and_eq_true, decide_eq_true_eq, beq_iff_eq, nbeq] at h)
  · rw [h]
  · rw [h.1, h.2]
  · rw [bytes_of h]
  · rfl
  · rw [h.1, h.2]
  · rw [h.1, h.2]
  · obtain ⟨⟨⟨h1, h2⟩, h3⟩, h4⟩ := h; rw [h1, h2, h3, h4]
  · rfl
  · rw [h]
  · rfl
  · rfl
  · cases h
theorem same0s_eq : ∀ {a b : List Value}, same0s a b = true → a = b
  | [], [], _ => rfl
  | a :: x, b :: y, h => by
    simp only [same0s, Bool.and_eq_true] at h
    rw [same0_eq h.1, same0s_eq h.2]
  | [], _ :: _, h => by cases h
  | _ :: _, [], h => by cases h
theorem sameV_eq {a b : Value} (h : sameV a b = true) : a = b := by
  unfold sameV at h
  split at h
  · rw [Array.toList_inj.1 (same0s_eq h)]
  · rw [Array.toList_inj.1 (same0s_eq h)]
  · simp only [Bool.and_eq_true, nbeq] at h
    rw [h.1.1, Array.toList_inj.1 (same0s_eq h.1.2), Array.toList_inj.1 (same0s_eq h.2)]
  · exact same0_eq h
theorem cfl_heap {T : Tab} {tm : PT Value} {h h' : CH} {o : Oper} (hr : readsHeap o.op = false) : cfl T tm h o = cfl T tm h' o := by
  unfold cfl
  cases ho : o.op <;> simp only [ho, readsHeap, Bool.true_eq_false] at hr <;> try rfl
  case call c =>
    cases hc : c.callee with
    | builtin b => simp only [hc, readsHeapC] at hr ⊢; cases b <;> first | rfl | (simp at hr)
    | value f => simp only [hc]
    | invoke r m => simp only [hc]
section
variable (T : Tab) (ops : Array Oper) (ms : List OpM) (n : Nat) (g0 : Nat → Option Value)
def Pend (C : Nat → Prop) (cv : Nat → Value) (h : CH) (held : List Held) (i : Nat) : Prop :=
  ∃ o m tmi Ci, ops[i]? = some o ∧ floatOp o.op = true ∧ Rdy ms Ci i m ∧ (∀ x, Ci x → C x) ∧ LastI ops n Ci cv g0 tmi.get ∧ (∀ t v, tmi.get t = some v → t < n) ∧
    ((cwant ops.toList tmi o = some false ∧ cv i = undefV) ∨ (cwant ops.toList tmi o = some true ∧ cfl T tmi h o = some (cv i) ∧ (⟨i, o, tmi, cv i⟩ : Held) ∈ held))
structure CI (a0 : CAct) (s : Stage) (cv : Nat → Value) (h : CH) (D : Nat → Prop) : Prop where
  cl : Closed ms fun i => tb s.listed i = true
  lt : ∀ i, tb s.listed i = true → i < ops.size
  nn : s.a.n = n
  tlt : ∀ t v, s.a.tm.get t = some v → t < n
  last : LastI ops n (fun i => tb s.listed i = true) cv g0 s.a.tm.get
  sub : ∀ i, D i → tb s.listed i = true
  pend : ∀ i, tb s.listed i = true → ¬ D i → Pend T ops ms n g0 (fun i => tb s.listed i = true) cv h s.held i
  df : s.a.defers = a0.defers
  rc : s.a.rc = a0.rc
end
section
variable {T : Tab} {ops : Array Oper} {ms : List OpM} {n : Nat} {g0 : Nat → Option Value} {a0 : CAct} {s : Stage} {cv : Nat → Value} {h : CH} {D : Nat → Prop}
theorem put_n (a : CAct) (d : Option Tmp) (v : Value) : (a.put d v).n = a.n := by
  cases d with
  | none => rfl
  | some d => show (a.setT d v).n = _; unfold CAct.setT; cases Nat.ble (d + 1) a.n <;> rfl
theorem put_get (a : CAct) (d : Option Tmp) (v : Value) (t : Nat) (ht : t < a.n) : (a.put d v).tm.get t = if d = some t then some v else a.tm.get t := by
  cases d with
  | none => simp [CAct.put]
  | some d =>
    show (a.setT d v).tm.get t = _
    unfold CAct.setT
    cases this : Nat.ble (d + 1) a.n with
    | true =>
      rw [cond_true]
      show (a.tm.set v d).get t = _
      rw [PT.get_set]
      by_cases htd : t = d
      · subst htd; simp
      · rw [if_neg htd, if_neg (by simp; exact fun h => htd h.symm)]
    | false =>
      have h1 := (nble_ff _ _).1 this
      rw [cond_false, if_neg]
      intro hh
      cases hh
      exact absurd (Nat.lt_of_lt_of_le h1 ht) (Nat.lt_irrefl _)
theorem put_lt (a : CAct) (d : Option Tmp) (v : Value) (hlt : ∀ t u, a.tm.get t = some u → t < a.n) (t : Nat) (u : Value) (hu : (a.put d v).tm.get t = some u) : t < a.n := by
  cases d with
  | none => exact hlt t u hu
  | some d =>
    have hu : (a.setT d v).tm.get t = some u := hu
    unfold CAct.setT at hu
    cases this : Nat.ble (d + 1) a.n with
    | true =>
      rw [this, cond_true] at hu
      have hu : (a.tm.set v d).get t = some u := hu
      rw [PT.get_set] at hu
      split at hu
      · rename_i hh
        rw [hh]
        exact (nble _ _).1 this
      · exact hlt t u hu
    | false =>
      rw [this, cond_false] at hu
      exact hlt t u hu
theorem Pend.mono {C C' : Nat → Prop} {cv' : Nat → Value} {h' : CH} {held held' : List Held} {i : Nat} (hp : Pend T ops ms n g0 C cv h held i) (hC : ∀ x, C x → C' x) (hv : ∀ x, C x → cv' x = cv x) (hi : C i)
    (hh : ∀ q, q ∈ held → q.i = i → cfl T q.tm h q.o = some q.v → q ∈ held' ∧ cfl T q.tm h' q.o = some q.v) : Pend T ops ms n g0 C' cv' h' held' i := by
  obtain ⟨o, m, tmi, Ci, h1, h2, h3, h4, h5, h6, h7⟩ := hp
  refine ⟨o, m, tmi, Ci, h1, h2, h3, fun x hx => hC x (h4 x hx), h5.congr fun x hx => hv x (h4 x hx), h6, ?_⟩
  rw [hv i hi]
  rcases h7 with h7 | ⟨h7, h8, h9⟩
  · exact .inl h7
  · obtain ⟨h10, h11⟩ := hh _ h9 rfl h8
    exact .inr ⟨h7, h11, h10⟩
theorem CI.add (hd : Drawn ops ms) (hI : CI T ops ms n g0 a0 s cv h D) {i : Nat} {o : Oper} {m : OpM} (ho : ops[i]? = some o) (hr : Rdy ms (fun x => tb s.listed x = true) i m) {v : Value} {h' : CH} {held' : List Held} {D' : Nat → Prop}
    (hsub : ∀ x, D' x → D x ∨ x = i) (hDD : ∀ x, D x → D' x) (hsame : ∀ x, tb s.listed x = true → ¬ D' x → ∀ q, q ∈ s.held → q.i = x → cfl T q.tm h q.o = some q.v → q ∈ held' ∧ cfl T q.tm h' q.o = some q.v)
    (hnew : ¬ D' i → floatOp o.op = true ∧ ((cwant ops.toList s.a.tm o = some false ∧ v = undefV) ∨ (cwant ops.toList s.a.tm o = some true ∧ cfl T s.a.tm h' o = some v ∧ (⟨i, o, s.a.tm, v⟩ : Held) ∈ held'))) :
    CI T ops ms n g0 a0 { listed := Nat.lor s.listed (2 ^ i), a := s.a.put o.dst v, held := held' } (vup cv i v) h' D' := by
  have hout : ∀ x, tb s.listed x = true → x ≠ i := fun x hx e => hr.out (e ▸ hx)
  have hbit : ∀ x, tb (Nat.lor s.listed (2 ^ i)) x = true ↔ (tb s.listed x = true ∨ x = i) := by
    intro x
    rw [tb_add, Bool.or_eq_true, decide_eq_true_eq]
    exact ⟨fun h => h.imp id Eq.symm, fun h => h.imp id Eq.symm⟩
  have hlast := hI.last.put (v := v) (g' := (s.a.put o.dst v).tm.get) hr.out ho (fun t j ht hc hw => hr.dst hd ho t j ht hc hw) (fun t ht => put_get _ _ _ _ (by rw [hI.nn]; exact ht))
  have hfun : (fun x => tb (Nat.lor s.listed (2 ^ i)) x = true) = (fun x => tb s.listed x = true ∨ x = i) := funext fun x => propext (hbit x)
  refine ⟨?_, ?_, ?_, ?_, ?_, ?_, ?_, ?_, ?_⟩
  · show Closed ms (fun x => tb (Nat.lor s.listed (2 ^ i)) x = true)
    rw [hfun]
    intro j mj hj hmj e he
    rcases hj with hj | rfl
    · exact .inl (hI.cl j mj hj hmj e he)
    · have := hr.mem
      rw [hmj] at this
      cases this
      exact .inl (hr.deps e he)
  · intro x hx
    rcases (hbit x).1 hx with hx | rfl
    · exact hI.lt x hx
    · exact (Array.getElem?_eq_some_iff.1 ho).1
  · show (s.a.put o.dst v).n = n
    rw [put_n, hI.nn]
  · intro t u hu
    have := put_lt s.a o.dst v (by rw [hI.nn]; exact hI.tlt) t u hu
    rwa [hI.nn] at this
  · show LastI ops n (fun x => tb (Nat.lor s.listed (2 ^ i)) x = true) _ g0 (s.a.put o.dst v).tm.get
    rw [hfun]
    exact hlast
  · intro x hx
    refine (hbit x).2 ?_
    rcases hsub x hx with h1 | h1
    · exact .inl (hI.sub x h1)
    · exact .inr h1
  · intro x hx hnD
    rcases (hbit x).1 hx with hx | rfl
    · exact (hI.pend x hx fun hh => hnD (hDD x hh)).mono (fun y hy => (hbit y).2 (.inl hy)) (fun y hy => vup_ne (hout y hy)) hx (hsame x hx hnD)
    · obtain ⟨hf, hnew⟩ := hnew hnD
      refine ⟨o, m, s.a.tm, _, ho, hf, hr, fun y hy => (hbit y).2 (.inl hy), hI.last.congr fun y hy => vup_ne (hout y hy), hI.tlt, ?_⟩
      rw [vup_eq]
      exact hnew
  · show (s.a.put o.dst v).defers = _
    rw [put_defers]; exact hI.df
  · show (s.a.put o.dst v).rc = _
    rw [put_rc]; exact hI.rc
theorem depsIn_iff {l : List Nat} {m : Nat} : depsIn l m = true ↔ ∀ e, e ∈ l → tb m e = true := by
  unfold depsIn
  rw [List.all_eq_true]
theorem takeF_sound (hd : Drawn ops ms) (hI : CI T ops ms n g0 a0 s cv h D) {i : Nat} {o : Oper} {m : OpM} (ho : ops[i]? = some o) (hr : Rdy ms (fun x => tb s.listed x = true) i m) (hf : floatOp o.op = true) (hD : ¬ D i) {s' : Stage}
    (ht : takeF T ops.toList h o i s = some s') : ∃ cv', (∀ x, tb s.listed x = true → cv' x = cv x) ∧ CI T ops ms n g0 a0 s' cv' h D ∧ s'.listed = Nat.lor s.listed (2 ^ i) := by
  have hout : ∀ x, tb s.listed x = true → x ≠ i := fun x hx e => hr.out (e ▸ hx)
  obtain ⟨w, hw, h1⟩ := obind ht
  cases w with
  | true =>
    obtain ⟨v, hv, rfl⟩ := omap (show _ = some s' from h1)
    exact ⟨vup cv i v, fun x hx => vup_ne (hout x hx), hI.add hd ho hr (fun x hx => .inl hx) (fun x hx => hx) (fun x hx _ q hq _ hc => ⟨List.mem_cons_of_mem _ hq, hc⟩) (fun _ => ⟨hf, .inr ⟨hw, hv, List.mem_cons_self⟩⟩), rfl⟩
  | false =>
    have h1 : some _ = some s' := h1
    cases h1
    exact ⟨vup cv i undefV, fun x hx => vup_ne (hout x hx), hI.add hd ho hr (fun x hx => .inl hx) (fun x hx => hx) (fun x hx _ q hq _ hc => ⟨hq, hc⟩) (fun _ => ⟨hf, .inl ⟨hw, rfl⟩⟩), rfl⟩
def Greed (ops : Array Oper) (ms : List OpM) (N : Nat) (L : Nat) : Prop :=
  ∀ (j : Nat) (o : Oper) (m : OpM), j < N → ops[j]? = some o → ms[j]? = some m → floatOp o.op = true → (∀ e, e ∈ m.deps → tb L e = true) → tb L j = true
theorem Greed.add (hd : Drawn ops ms) {i L : Nat} (hg : Greed ops ms i L) : Greed ops ms i (Nat.lor L (2 ^ i)) := by
  intro j o m hj ho hm hf hdeps
  rw [tb_add, hg j o m hj ho hm hf fun e he => ?_]
  · rfl
  · have := hdeps e he
    rw [tb_add] at this
    have hlt := (hd.pair j m hm).1 e he
    simpa [show i ≠ e by omega] using this
theorem greedy_sound (hd : Drawn ops ms) (hDm : ∀ i, D i → i < ops.size) : ∀ (l : List Oper) (lm : List OpM) (i : Nat), ops.toList.drop i = l → ms.drop i = lm → ∀ {s s' : Stage} {cv : Nat → Value},
    CI T ops ms n g0 a0 s cv h D → Greed ops ms i s.listed → greedy T ops.toList h l lm i s = some s' →
    ∃ cv', (∀ x, tb s.listed x = true → cv' x = cv x) ∧ CI T ops ms n g0 a0 s' cv' h D ∧ Greed ops ms ops.size s'.listed
  | [], lm, i, hl, hlm, s, s', cv, hI, hg, ht => by
    have hsz : ops.size ≤ i := by
      have := congrArg List.length hl
      simp at this
      omega
    have : s = s' := by cases lm <;> (simp only [greedy, Option.some.injEq] at ht; exact ht)
    subst this
    exact ⟨cv, fun _ _ => rfl, hI, fun j o m hj ho => hg j o m (by omega) ho⟩
  | o :: l, [], i, hl, hlm, s, s', cv, hI, hg, ht => by
    exfalso
    have h1 := congrArg List.length hl
    have h2 := congrArg List.length hlm
    have := hd.len
    simp at h1 h2
    omega
  | o :: l, m :: lm, i, hl, hlm, s, s', cv, hI, hg, ht => by
    have ho : ops[i]? = some o := by
      have := congrArg (·[0]?) hl
      simp only [List.getElem?_drop, Nat.add_zero, List.getElem?_cons_zero] at this
      rwa [Array.getElem?_toList] at this
    have hm : ms[i]? = some m := by
      have := congrArg (·[0]?) hlm
      simpa only [List.getElem?_drop, Nat.add_zero, List.getElem?_cons_zero] using this
    have hl' : ops.toList.drop (i + 1) = l := by
      have := congrArg (·.drop 1) hl
      simpa [List.drop_drop] using this
    have hlm' : ms.drop (i + 1) = lm := by
      have := congrArg (·.drop 1) hlm
      simpa [List.drop_drop] using this
    unfold greedy at ht
    cases hc : (!tb s.listed i && floatOp o.op && depsIn m.deps s.listed) with
    | true =>
      rw [hc, cond_true] at ht
      obtain ⟨s1, h1, h2⟩ := obind ht
      simp only [Bool.and_eq_true, Bool.not_eq_true'] at hc
      have hr : Rdy ms (fun x => tb s.listed x = true) i m := ⟨hI.cl, hm, by simp [hc.1.1], depsIn_iff.1 hc.2⟩
      have hDi : ¬ D i := fun hh => by have := hI.sub i hh; rw [hc.1.1] at this; cases this
      obtain ⟨cv1, g1, g2, g3⟩ := takeF_sound hd hI ho hr hc.1.2 hDi h1
      have hg1 : Greed ops ms (i + 1) s1.listed := by
        rw [g3]
        intro j oj mj hj hoj hmj hfj hdj
        rcases Nat.lt_or_ge j i with hji | hji
        · exact (hg.add hd) j oj mj hji hoj hmj hfj hdj
        · rw [tb_add, show i = j by omega]; simp
      obtain ⟨cv2, k1, k2, k3⟩ := greedy_sound hd hDm l lm (i + 1) hl' hlm' g2 hg1 h2
      exact ⟨cv2, fun x hx => by rw [k1 x (by rw [g3, tb_add, hx]; rfl), g1 x hx], k2, k3⟩
    | false =>
      rw [hc, cond_false] at ht
      have hg1 : Greed ops ms (i + 1) s.listed := by
        intro j oj mj hj hoj hmj hfj hdj
        rcases Nat.lt_or_ge j i with hji | hji
        · exact hg j oj mj hji hoj hmj hfj hdj
        · obtain rfl : i = j := by omega
          rw [ho] at hoj
          rw [hm] at hmj
          cases hoj; cases hmj
          rw [hfj, depsIn_iff.2 hdj] at hc
          simpa using hc
      exact greedy_sound hd hDm l lm (i + 1) hl' hlm' hI hg1 ht
theorem recheck_sound {B : Nat} {h' : CH} : ∀ {l l' : List Held}, recheck T B h' l = some l' → ∀ q, q ∈ l → tb B q.i = false → cfl T q.tm h q.o = some q.v → q ∈ l' ∧ cfl T q.tm h' q.o = some q.v
  | [], l', hr, q, hq, _, _ => by cases hq
  | p :: r, l', hr, q, hq, hb, hc => by
    unfold recheck at hr
    cases hbp : tb B p.i with
    | true =>
      rw [hbp, cond_true] at hr
      rcases List.mem_cons.1 hq with rfl | hq
      · rw [hb] at hbp; cases hbp
      · exact recheck_sound hr q hq hb hc
    | false =>
      rw [hbp, cond_false] at hr
      cases hrd : readsHeap p.o.op with
      | true =>
        rw [hrd, cond_true] at hr
        obtain ⟨v, hv, h1⟩ := obind hr
        obtain ⟨hs, h2⟩ := ocond h1
        obtain ⟨l1, h3, rfl⟩ := omap h2
        rcases List.mem_cons.1 hq with rfl | hq
        · exact ⟨List.mem_cons_self, by rw [hv, sameV_eq hs]⟩
        · have := recheck_sound h3 q hq hb hc
          exact ⟨List.mem_cons_of_mem _ this.1, this.2⟩
      | false =>
        rw [hrd, cond_false] at hr
        obtain ⟨l1, h3, rfl⟩ := omap hr
        rcases List.mem_cons.1 hq with rfl | hq
        · exact ⟨List.mem_cons_self, by rw [← cfl_heap (h := h) hrd]; exact hc⟩
        · have := recheck_sound h3 q hq hb hc
          exact ⟨List.mem_cons_of_mem _ this.1, this.2⟩
end
end Go.Cx
set_option linter.unusedSimpArgs false
set_option linter.unusedVariables false
namespace Go.Cx
open Go.RowKit (Below)
theorem countP_lt {p q : Nat → Bool} {i : Nat} : ∀ {l : List Nat}, i ∈ l → p i = true → q i = false → (∀ x, q x = true → p x = true) → l.countP q < l.countP p
  | [], h, _, _, _ => by cases h
  | x :: r, h, hp, hq, hs => by
    have hle : r.countP q ≤ r.countP p := List.countP_mono_left fun y _ hy => hs y hy
    rw [List.countP_cons, List.countP_cons]
    rcases List.mem_cons.1 h with rfl | h
    · rw [hp, hq]; simp; omega
    · have := countP_lt h hp hq hs
      cases hqx : q x with
      | true => rw [hs x hqx]; simp; omega
      | false => simp; omega
def left (size : Nat) (listed : Array Bool) : Nat := (List.range size).countP fun i => !listed.getD i true
section
variable {P : Program} {T : Tab} {B0 : Nat} {w0 : World} {ops : Array Oper} {ms : List OpM} {n : Nat} {a0 : CAct} {ra0 : Act} {e0 : Env}
theorem readyE_mem : ∀ (l : List Oper) (lm : List OpM) (i L : Nat) (j : Nat) (o : Oper) (m : OpM), l[j]? = some o → lm[j]? = some m → tb L (i + j) = false → floatOp o.op = false → depsIn m.deps L = true → (i + j, o) ∈ readyE l lm i L
  | [], lm, i, L, j, o, m, hj, _, _, _, _ => by simp at hj
  | o :: r, [], i, L, j, o', m, _, hm, _, _, _ => by simp at hm
  | o :: r, m :: lm, i, L, j, o', m', hj, hm, ht, hf, hd => by
    unfold readyE
    cases j with
    | zero =>
      simp at hj hm
      subst hj; subst hm
      rw [Nat.add_zero] at ht
      rw [ht, hf, hd]
      exact List.mem_cons_self
    | succ j =>
      have := readyE_mem r lm (i + 1) L j o' m' (by simpa using hj) (by simpa using hm) (by rw [show i + 1 + j = i + (j + 1) by omega]; exact ht) hf hd
      rw [show i + 1 + j = i + (j + 1) by omega] at this
      cases (!tb L i && !floatOp o.op && depsIn m.deps L) with
      | true => exact List.mem_cons_of_mem _ this
      | false => exact this
structure DI (T : Tab) (B0 : Nat) (w0 : World) (ops : Array Oper) (ms : List OpM) (n : Nat) (a0 : CAct) (ra0 : Act) (s : Stage) (h : CH) (e : Env) (w : World) (ra : Act) (D : Nat → Prop) (cv rv : Nat → Value) : Prop where
  ci : CI T ops ms n a0.tm.get a0 s cv h D
  cl : Closed ms D
  size : ra.tmps.size = n
  last : LastI ops n D rv (fun t => ra0.tmps[t]?) (fun t => ra.tmps[t]?)
  val : ∀ i, D i → VR e (cv i) (rv i)
  tr : TR e n a0.tm ra0.tmps
  df : DL e a0.defers ra0.defers
  rdf : ra.defers = ra0.defers
  r : R B0 w0 e h w
theorem DI.dlt {s : Stage} {h : CH} {e : Env} {w : World} {ra : Act} {D : Nat → Prop} {cv rv : Nat → Value} (hI : DI T B0 w0 ops ms n a0 ra0 s h e w ra D cv rv) (i : Nat) (hi : D i) : i < ops.size := hI.ci.lt i (hI.ci.sub i hi)
theorem DI.same (hd : Drawn ops ms) {s : Stage} {h : CH} {e : Env} {w : World} {ra : Act} {D : Nat → Prop} {cv rv : Nat → Value} (hI : DI T B0 w0 ops ms n a0 ra0 s h e w ra D cv rv) {i : Nat} {o : Oper} {m mC : OpM} (ho : ops[i]? = some o) {C : Nat → Prop} (hC : Rdy ms C i mC) (hD : Rdy ms D i m)
    {tm : PT Value} (hlast : LastI ops n C cv a0.tm.get tm.get) (hlt : ∀ t v, tm.get t = some v → t < n) : ∃ tmL raL, Same P T e n ops o tm ra tmL raL := by
  refine same_of hI.size hlt fun t v' ht hv' => ?_
  have htn : t < n := by rw [← hI.size]; exact (Array.getElem?_eq_some_iff.1 hv').1
  have := last_eq (e := e) hI.last hlast (N := ops.size) htn hI.dlt (fun j hw => (hD.looks hd ho ht hw).trans (hC.looks hd ho ht hw).symm) (Q := fun x y => ∀ v', x = some v' → VR e (y.getD undefV) v') (fun v' hv' => hI.tr.val t v' hv') (fun j h1 h2 v' hv' => by cases hv'; exact hI.val j h1)
  exact this v' hv'
theorem real_put (hd : Drawn ops ms) {ra : Act} {D : Nat → Prop} {rv : Nat → Value} (hcl : Closed ms D) (hsz : ra.tmps.size = n) (hl : LastI ops n D rv (fun t => ra0.tmps[t]?) (fun t => ra.tmps[t]?)) {i : Nat} {o : Oper} {m : OpM} (ho : ops[i]? = some o) (hD : Rdy ms D i m) (v : Value) :
    Closed ms (fun x => D x ∨ x = i) ∧ (ra.put o.dst v).tmps.size = n ∧ LastI ops n (fun x => D x ∨ x = i) (vup rv i v) (fun t => ra0.tmps[t]?) (fun t => (ra.put o.dst v).tmps[t]?) ∧ (ra.put o.dst v).defers = ra.defers := by
  refine ⟨?_, ?_, ?_, rput_defers _ _ _⟩
  · intro j mj hj hmj e he
    rcases hj with hj | rfl
    · exact .inl (hcl j mj hj hmj e he)
    · have := hD.mem
      rw [hmj] at this
      cases this
      exact .inl (hD.deps e he)
  · cases o.dst <;> simp [Act.put, hsz]
  · refine hl.put hD.out ho (fun t j ht hc hw => hD.dst hd ho t j ht hc hw) fun t ht => ?_
    cases hdst : o.dst with
    | none => simp [Act.put]
    | some d =>
      simp only [Act.put, Option.some.injEq]
      by_cases hdt : d = t
      · subst hdt
        simp only [if_true]
        exact Array.getElem?_setIfInBounds_self_of_lt (by rw [hsz]; exact ht)
      · rw [if_neg hdt, Array.getElem?_setIfInBounds_ne hdt]
end
end Go.Cx
set_option linter.unusedSimpArgs false
set_option linter.unusedVariables false
namespace Go.Cx
open Go.RowKit (Below)
section
variable {P : Program} {T : Tab} {B0 : Nat} {w0 : World} {ops : Array Oper} {ms : List OpM} {n : Nat} {a0 : CAct} {ra0 : Act} {e0 : Env}
theorem readyE_done : ∀ (l : List Oper) (lm : List OpM) (i L : Nat), (∀ j, j < l.length → tb L (i + j) = true) → readyE l lm i L = []
  | [], lm, i, L, _ => by cases lm <;> rfl
  | o :: r, [], i, L, _ => rfl
  | o :: r, m :: lm, i, L, h => by
    unfold readyE
    have h0 := h 0 (by simp)
    rw [Nat.add_zero] at h0
    rw [h0]
    exact readyE_done r lm (i + 1) L fun j hj => by
      have := h (j + 1) (by simpa using hj)
      rwa [show i + 1 + j = i + (j + 1) by omega]
theorem CI.sub_mono {s : Stage} {cv : Nat → Value} {h : CH} {D D' : Nat → Prop} {g0 : Nat → Option Value} (hI : CI T ops ms n g0 a0 s cv h D) (h1 : ∀ i, D i → D' i) (h2 : ∀ i, D' i → tb s.listed i = true) : CI T ops ms n g0 a0 s cv h D' :=
  ⟨hI.cl, hI.lt, hI.nn, hI.tlt, hI.last, h2, fun i hi hn => hI.pend i hi fun hh => hn (h1 i hh), hI.df, hI.rc⟩
theorem ready_all {listed : Array Bool} (hd : Drawn ops ms) (hsz : listed.size = ops.size) (hr : Region.ready .any ops listed = []) : ∀ i, i < ops.size → listed.getD i false = true := by
  intro i
  induction i using Nat.strongRecOn with
  | ind i ih =>
    intro hi
    cases hl : listed.getD i false with
    | true => rfl
    | false =>
      exfalso
      have : i ∈ Region.ready .any ops listed := by
        rw [mem_ready]
        refine ⟨?_, ops[i], Array.getElem?_eq_getElem hi, fun e he hb => ?_⟩
        · rw [Array.getD_eq_getD_getElem?, Array.getElem?_eq_getElem (by omega)] at hl ⊢
          simpa using hl
        · obtain ⟨m, hm, hok⟩ := hd.ok i ops[i] (Array.getElem?_eq_getElem hi)
          have : e.on ∈ m.deps := by
            rw [hok.deps]
            exact List.mem_map.2 ⟨e, List.mem_filter.2 ⟨by simpa using he, hb⟩, rfl⟩
          have hlt := (hd.pair i m hm).1 _ this
          exact ih e.on hlt (by omega)
      rw [hr] at this
      cases this
theorem draw_end (hd : Drawn ops ms) {s : Stage} {h : CH} {e : Env} {w : World} {ra : Act} {D : Nat → Prop} {cv rv : Nat → Value} (hI : DI T B0 w0 ops ms n a0 ra0 s h e w ra D cv rv) (hall : ∀ i, i < ops.size → D i)
    {cf : Callf} {all : Nat} {next : Stage → CH → Kcode → Bool} {K : Kcode} (hc : cdraw1 T cf ops.toList ms all next s h K = true) : K .normal s.a h = true ∧ AR e s.a ra := by
  unfold cdraw1 at hc
  rw [readyE_done ops.toList ms 0 s.listed (fun j hj => by rw [Nat.zero_add]; exact hI.ci.sub j (hall j (by simpa using hj)))] at hc
  simp only at hc
  refine ⟨?_, ⟨?_, ?_⟩⟩
  · cases hq : Nat.beq s.listed all with
    | true => rw [hq] at hc; exact hc
    | false => rw [hq] at hc; cases hc
  · rw [hI.ci.nn]
    refine ⟨hI.size, hI.ci.tlt, fun t v' hv' => ?_⟩
    have htn : t < n := by rw [← hI.size]; exact (Array.getElem?_eq_some_iff.1 hv').1
    have := last_eq (e := e) hI.last hI.ci.last (N := ops.size) htn hI.dlt (fun j hw => ⟨hI.ci.sub j, fun hh => hall j (hI.ci.lt j hh)⟩) (Q := fun x y => ∀ v', x = some v' → VR e (y.getD undefV) v') (fun v' hv' => hI.tr.val t v' hv') (fun j h1 h2 v' hv' => by cases hv'; exact hI.val j h1)
    exact this v' hv'
  · rw [hI.ci.df, hI.rdf]; exact hI.df
theorem draw_sound (hT : TabOk P T) {cf : Callf} (hcf : CallOk P B0 w0 cf) (hd : Drawn ops ms) {rnd : Bool} {fid : FuncId} {b : Frame} {k : List Item} {cs : List Frame} {rcs : Bool} (hb : FOk b fid rnd rcs) {all : Nat} {K : Kcode} :
    ∀ (fuel t : Nat) (listed : Array Bool), listed.size = ops.size → left ops.size listed ≤ fuel → ∀ {N : Nat} {s : Stage} {h : CH} {e : Env} {w : World} {ra : Act} {cv rv : Nat → Value},
      DI T B0 w0 ops ms n a0 ra0 s h e w ra (fun i => listed.getD i false = true) cv rv → Greed ops ms ops.size s.listed → cdraw1 T cf ops.toList ms all (cdraw T cf ops.toList ms all N) s h K = true →
      ∃ a h' e' w' ra', K .normal a h' = true ∧ Ext e e' ∧ R B0 w0 e' h' w' ∧ AR e' a ra' ∧ a.rc = a0.rc ∧ Steps P (lone (b.atR ra (.inRegion ops (Region.linearise.go .any ops fuel t listed []) :: k)) cs w) (lone (b.atR ra' k) cs w') := by
  intro fuel
  induction fuel with
  | zero =>
    intro t listed hsz hleft N s h e w ra cv rv hI hg hc
    have hall : ∀ i, i < ops.size → listed.getD i false = true := by
      intro i hi
      have h0 : left ops.size listed = 0 := by omega
      unfold left at h0
      rw [List.countP_eq_zero] at h0
      have := h0 i (List.mem_range.2 hi)
      rw [Array.getD_eq_getD_getElem?, Array.getElem?_eq_getElem (by omega)] at this ⊢
      simpa using this
    obtain ⟨h1, h2⟩ := draw_end hd hI hall hc
    exact ⟨s.a, h, e, w, ra, h1, Ext.refl e, hI.r, h2, hI.ci.rc, .one stepR_region_end⟩
  | succ fuel ih =>
    intro t listed hsz hleft N s h e w ra cv rv hI hg hc
    simp only [Region.linearise.go]
    change ∃ a h' e' w' ra', K .normal a h' = true ∧ Ext e e' ∧ R B0 w0 e' h' w' ∧ AR e' a ra' ∧ a.rc = a0.rc ∧ Steps P (lone (b.atR ra (.inRegion ops (match (Region.ready .any ops listed)[t % (Region.ready .any ops listed).length]? with
      | some i => Region.linearise.go .any ops fuel (t / (Region.ready .any ops listed).length) (listed.setIfInBounds i true) [i]
      | none => [].reverse) :: k)) cs w) (lone (b.atR ra' k) cs w')
    cases hi : (Region.ready .any ops listed)[t % (Region.ready .any ops listed).length]? with
    | none =>
      have hnil : Region.ready .any ops listed = [] := by
        cases hr : Region.ready .any ops listed with
        | nil => rfl
        | cons x xs =>
          rw [hr] at hi
          have hlt : t % (x :: xs).length < (x :: xs).length := Nat.mod_lt _ (by simp)
          simp at hi
          simp at hlt
          omega
      obtain ⟨h1, h2⟩ := draw_end hd hI (ready_all hd hsz hnil) hc
      exact ⟨s.a, h, e, w, ra, h1, Ext.refl e, hI.r, h2, hI.ci.rc, .one stepR_region_end⟩
    | some i =>
      simp only []
      rw [linearise_go_acc, List.reverse_singleton, List.singleton_append]
      obtain ⟨hl0, o, ho, hafter⟩ := mem_ready.1 (List.mem_of_getElem? hi)
      have hio : i < ops.size := (Array.getElem?_eq_some_iff.1 ho).1
      obtain ⟨m, hm, hok⟩ := hd.ok i o ho
      have hDi : ¬ listed.getD i false = true := by
        rw [Array.getD_eq_getD_getElem?, Array.getElem?_eq_getElem (by omega)] at hl0 ⊢
        simpa using hl0
      have hrD : Rdy ms (fun i => listed.getD i false = true) i m := by
        refine ⟨hI.cl, hm, hDi, fun e he => ?_⟩
        rw [hok.deps] at he
        obtain ⟨x, hx, rfl⟩ := List.mem_map.1 he
        obtain ⟨hx1, hx2⟩ := List.mem_filter.1 hx
        exact hafter x (by simpa using hx1) hx2
      have hsz' : (listed.setIfInBounds i true).size = ops.size := by rw [Array.size_setIfInBounds, hsz]
      have hleft' : left ops.size (listed.setIfInBounds i true) ≤ fuel := by
        have : left ops.size (listed.setIfInBounds i true) < left ops.size listed := by
          unfold left
          refine countP_lt (i := i) (List.mem_range.2 hio) (by simp only [hl0]; rfl) ?_ fun x hx => ?_
          · rw [Array.getD_eq_getD_getElem?, Array.getElem?_setIfInBounds_self_of_lt (by omega)]; rfl
          · by_cases hxi : i = x
            · subst hxi; simp only [hl0]; rfl
            · rwa [getD_set_ne true hxi] at hx
        omega
      have hD' : (fun x => (listed.setIfInBounds i true).getD x false = true) = (fun x => listed.getD x false = true ∨ x = i) := by
        funext x
        apply propext
        by_cases hxi : i = x
        · subst hxi
          rw [Array.getD_eq_getD_getElem?, Array.getElem?_setIfInBounds_self_of_lt (by omega)]
          simp
        · rw [getD_set_ne false hxi]
          simp [Ne.symm hxi]
      have hC : ∀ e, e ∈ m.deps → tb s.listed e = true := fun e he => hI.ci.sub e (hrD.deps e he)
      cases hf : floatOp o.op with
      | true =>
        have hiC := hg i o m hio ho hm hf hC
        obtain ⟨oi, mi, tmi, Ci, h1, h2, h3, h4, h5, h6, h7⟩ := hI.ci.pend i hiC hDi
        rw [ho] at h1
        cases h1
        obtain ⟨tmL, raL, hs⟩ := hI.same (P := P) hd ho h3 hrD h5 h6
        have hnd : ∀ c, o.op ≠ .defer c := by intro c hc; rw [hc] at hf; cases hf
        have hns : ∀ cs b, o.op ≠ .select cs b := by intro cs b hc; rw [hc] at hf; cases hf
        have hsem := semAt_of (b := b) (o := o) (a := ra) hb.ro (fun _ => hnd)
        rw [← hs.exec hns] at hsem
        have key : ∃ v', VR e (cv i) v' ∧ step P (lone (b.atR ra (.inRegion ops (i :: Region.linearise.go .any ops fuel (t / (Region.ready .any ops listed).length) (listed.setIfInBounds i true) []) :: k)) cs w) =
            .next (lone (b.atR (ra.put o.dst v') (.inRegion ops (Region.linearise.go .any ops fuel (t / (Region.ready .any ops listed).length) (listed.setIfInBounds i true) []) :: k)) cs w) := by
          rcases h7 with ⟨h7, h8⟩ | ⟨h7, h8, _⟩
          · rw [← hs.want] at h7
            have hw := cwant_sound hs.tr h7
            rw [hs.wanted] at hw
            refine ⟨undef, by rw [h8]; exact VR.undef, ?_⟩
            have := stepR_op_skip (P := P) (b := b) (a := ra) (k := k) (cs := cs) (w := w) (ops := ops) (i := i) (rest := Region.linearise.go .any ops fuel (t / (Region.ready .any ops listed).length) (listed.setIfInBounds i true) []) (by simp [ho, hw])
            rw [ho] at this
            exact this
          · rw [← hs.want] at h7
            have hw := cwant_sound hs.tr h7
            rw [hs.wanted] at hw
            rw [← hs.fl] at h8
            obtain ⟨v', g1, g2⟩ := cfl_sound hT hI.r hs.tr h8
            exact ⟨v', g2, step_val ho hw (by rw [hsem]; exact g1)⟩
        obtain ⟨v', hv', hst⟩ := key
        obtain ⟨p1, p2, p3, p4⟩ := real_put hd hI.cl hI.size hI.last ho hrD v'
        have hI' : DI T B0 w0 ops ms n a0 ra0 s h e w (ra.put o.dst v') (fun x => (listed.setIfInBounds i true).getD x false = true) cv (vup rv i v') := by
          rw [hD']
          refine ⟨hI.ci.sub_mono (fun x hx => .inl hx) (fun x hx => ?_), p1, p2, p3, fun x hx => ?_, hI.tr, hI.df, p4.trans hI.rdf, hI.r⟩
          · rcases hx with hx | rfl
            · exact hI.ci.sub x hx
            · exact hiC
          · rcases hx with hx | rfl
            · rw [vup_ne (i := x) (j := i) (fun e => hDi (e ▸ hx))]; exact hI.val x hx
            · rw [vup_eq]; exact hv'
        obtain ⟨a, h', e', w', ra', q1, q2, q3, q4, q5, q6⟩ := ih _ _ hsz' hleft' hI' hg hc
        exact ⟨a, h', e', w', ra', q1, q2, q3, q4, q5, (Steps.one hst).trans q6⟩
      | false =>
        have hiC : ¬ tb s.listed i = true := by
          intro hh
          obtain ⟨oi, mi, tmi, Ci, h1, h2, _⟩ := hI.ci.pend i hh hDi
          rw [ho] at h1
          cases h1
          rw [hf] at h2
          cases h2
        have hrC : Rdy ms (fun x => tb s.listed x = true) i m := ⟨hI.ci.cl, hm, hiC, hC⟩
        have hmem : (i, o) ∈ readyE ops.toList ms 0 s.listed := by
          have := readyE_mem ops.toList ms 0 s.listed i o m (by rw [Array.getElem?_toList]; exact ho) hm (by rw [Nat.zero_add]; simpa using hiC) hf (depsIn_iff.2 hC)
          rwa [Nat.zero_add] at this
        have hc1 : c1e T cf ops.toList o s.a.tm h (kdraw T ms (cdraw T cf ops.toList ms all N) s K i o.dst) = true := by
          unfold cdraw1 at hc
          cases hre : readyE ops.toList ms 0 s.listed with
          | nil => rw [hre] at hmem; cases hmem
          | cons x xs =>
            rw [hre] at hc hmem
            simp only at hc
            rw [List.all_eq_true] at hc
            exact hc (i, o) hmem
        obtain ⟨tmL, raL, hs⟩ := hI.same (P := P) hd ho hrC hrD hI.ci.last hI.ci.tlt
        obtain ⟨v, h', e', w', v', g1, g2, g3, g4, g5⟩ := c1e_sound (k := k) (cs := cs) (rest := Region.linearise.go .any ops fuel (t / (Region.ready .any ops listed).length) (listed.setIfInBounds i true) []) hT hcf ho hs hc1 hI.r hb
        unfold kdraw at g1
        split at g1
        · rename_i held hre
          obtain ⟨p1, p2, p3, p4⟩ := real_put hd hI.cl hI.size hI.last ho hrD v'
          have hCI := hI.ci.add hd ho hrC (v := v) (h' := h') (held' := held) (D' := fun x => listed.getD x false = true ∨ x = i) (fun x hx => hx) (fun x hx => .inl hx) (fun x hx hn q hq hqi hcq => by
            refine recheck_sound hre q hq ?_ hcq
            rw [hqi]
            cases hbx : tb (maskOf ms i) x with
            | false => rfl
            | true =>
              exfalso
              rw [maskOf, lget_eq, hm] at hbx
              exact hn (.inl (hI.cl.before hd (i + 1) i m (by omega) hm hrD.deps x hbx))) (fun hn => absurd (.inr rfl) hn)
          cases N with
          | zero => cases g1
          | succ N =>
            have g1 : (match greedy T ops.toList h' ops.toList ms 0 { listed := Nat.lor s.listed (2 ^ i), a := s.a.put o.dst v, held := held } with
              | none => false
              | some s => cdraw1 T cf ops.toList ms all (cdraw T cf ops.toList ms all N) s h' K) = true := g1
            split at g1
            · cases g1
            · rename_i s2 hgr
              obtain ⟨cv2, k1, k2, k3⟩ := greedy_sound hd (fun x hx => hCI.lt x (hCI.sub x hx)) ops.toList ms 0 rfl rfl hCI (fun j oj mj hj => absurd hj (Nat.not_lt_zero j)) hgr
              have hI' : DI T B0 w0 ops ms n a0 ra0 s2 h' e' w' (ra.put o.dst v') (fun x => (listed.setIfInBounds i true).getD x false = true) cv2 (vup rv i v') := by
                rw [hD']
                refine ⟨k2, p1, p2, p3, fun x hx => ?_, hI.tr.mono g2, hI.df.mono g2, p4.trans hI.rdf, g3⟩
                rw [k1 x (hCI.sub x hx)]
                rcases hx with hx | rfl
                · rw [vup_ne (i := x) (j := i) (fun e => hDi (e ▸ hx)), vup_ne (i := x) (j := i) (fun e => hDi (e ▸ hx))]; exact (hI.val x hx).mono g2
                · rw [vup_eq, vup_eq]; exact g4
              obtain ⟨a, h2, e2, w2, ra2, q1, q2, q3, q4, q5, q6⟩ := ih _ _ hsz' hleft' hI' k3 g1
              exact ⟨a, h2, e2, w2, ra2, q1, g2.trans q2, q3, q4, q5, g5.trans q6⟩
        · cases g1
theorem cregion_sound (hT : TabOk P T) {cf : Callf} (hcf : CallOk P B0 w0 cf) {rnd : Bool} {fid : FuncId} {id : Nat} {d : Bool} {b : Frame} {k : List Item} {cs0 cs : List Frame} {K : Kcode} {a : CAct} {h : CH} {e : Env} {w : World} {ra : Act}
    (hc : cregion T cf rnd ops.toList d a h K = true) (hR : R B0 w0 e h w) (ha : AR e a ra) (hrc : RC e a.rc cs0 cs) (hb : FOk b fid rnd a.rc.isSome) :
    Goes P B0 w0 e (lone (b.atR ra (.code (.region id ops d) :: k)) cs w) b k cs0 a.rc.isSome K := by
  unfold cregion at hc
  cases d with
  | false =>
    rw [cond_false] at hc
    have := cops_sound (k := k) (ops := ops) hT hcf ops.toList 0 rfl hc hR ha hrc hb
    rw [Array.length_toList, ← List.range_eq_range'] at this
    exact this.of_steps (.one stepR_region)
  | true =>
    rw [cond_true] at hc
    unfold cregionD at hc
    cases hp : pairsOk (opMs ops.toList ops.toList []) (opMs ops.toList ops.toList []) 0 with
    | false => rw [hp] at hc; cases hc
    | true =>
      rw [hp, cond_true] at hc
      have hd := Drawn.of hp
      generalize opMs ops.toList ops.toList [] = ms at hc hd
      have hc : (match greedy T ops.toList h ops.toList ms 0 { listed := 0, a, held := [] } with
              | none => false
              | some s => cdraw1 T cf ops.toList ms (2 ^ ops.toList.length - 1) (cdraw T cf ops.toList ms (2 ^ ops.toList.length - 1) ops.toList.length) s h K) = true := hc
      split at hc
      · cases hc
      · rename_i s hgr
        have hCI : CI T ops ms a.n a.tm.get a { listed := 0, a, held := [] } (fun _ => undefV) h (fun i => (Array.replicate ops.size false).getD i false = true) := by
          have hno : ∀ i, ¬ tb 0 i = true := fun i => by rw [tb_zero]; simp
          refine ⟨fun j m hj => absurd hj (hno j), fun i hi => absurd hi (hno i), rfl, ha.tm.lt, fun t ht => ⟨fun i hi => absurd hi (hno i), fun _ => rfl⟩, fun i hi => ?_, fun i hi => absurd hi (hno i), rfl, rfl⟩
          rw [Array.getD_eq_getD_getElem?, Array.getElem?_replicate] at hi
          split at hi <;> cases hi
        have hno : ∀ i, ¬ (Array.replicate ops.size false).getD i false = true := fun i hi => by
          rw [Array.getD_eq_getD_getElem?, Array.getElem?_replicate] at hi
          split at hi <;> cases hi
        obtain ⟨cv, k1, k2, k3⟩ := greedy_sound hd (fun x hx => absurd hx (hno x)) ops.toList ms 0 rfl rfl hCI (fun j oj mj hj => absurd hj (Nat.not_lt_zero j)) hgr
        have hI : DI T B0 w0 ops ms a.n a ra s h e { w with drawn := w.drawn + 1 } ra (fun i => (Array.replicate ops.size false).getD i false = true) cv (fun _ => undef) :=
          ⟨k2, fun j m hj => absurd hj (hno j), ha.tm.size, fun t ht => ⟨fun i hi => absurd hi (hno i), fun _ => rfl⟩, fun i hi => absurd hi (hno i), ha.tm, ha.df, rfl, hR.drew⟩
        have hleft : left ops.size (Array.replicate ops.size false) ≤ ops.size := by
          unfold left
          have := List.countP_le_length (p := fun i => !(Array.replicate ops.size false).getD i true) (l := List.range ops.size)
          simpa using this
        obtain ⟨a', h', e', w', ra', q1, q2, q3, q4, q5, q6⟩ := draw_sound (k := k) (cs := cs) hT hcf hd hb ops.size (w.tape w.drawn (.order b.fn id)) _ (by simp) hleft hI k3 hc
        have hsch : ∀ t, Region.schedule (P.follows .mixedOrders) ops t = Region.linearise.go .any ops ops.size t (Array.replicate ops.size false) [] := by
          intro t
          simp only [Region.schedule, hT.follows, Bool.true_or, if_true, Region.linearise]
        have hst := stepR_region_draw (P := P) (b := b) (a := ra) (k := k) (cs := cs) (w := w) (ops := ops) (id := id)
        rw [hsch] at hst
        exact ⟨.normal, a', h', e', w', ra', cs, q1, q2, q3, q4, by rw [q5]; exact hrc.mono q2, by rw [q5], (Steps.one hst).trans q6⟩
end
end Go.Cx
set_option linter.unusedSimpArgs false
set_option linter.unusedVariables false
namespace Go.Cx
open Go.RowKit (Below)
section
variable {P : Program} {b : Frame} {a : Act} {k : List Item} {cs : List Frame} {w : World}
theorem stepR_scope {c : Code} : step P (lone (b.atR a (.code (.scope c) :: k)) cs w) = .next (lone (b.atR a (.code c :: .inScope c :: k)) cs w) :=
  step_lone_go (by simp [stepG, stepG.exec, Frame.atR])
theorem stepR_inScope {c : Code} : step P (lone (b.atR a (.inScope c :: k)) cs w) = .next (lone (b.atR a k) cs w) :=
  step_lone_go (by simp [stepG, stepG.exec, Frame.atR])
end
theorem tmList_get (tm : PT Value) : ∀ (n : Nat) (acc : List Value) (i : Nat), (tmList tm n acc)[i]? = if i < n then some ((tm.get i).getD undefV) else acc[i - n]?
  | 0, acc, i => by simp [tmList]
  | n + 1, acc, i => by
    rw [tmList, tmList_get tm n]
    by_cases h1 : i < n
    · rw [if_pos h1, if_pos (by omega)]
    · rw [if_neg h1]
      by_cases h2 : i = n
      · subst h2; simp
      · rw [if_neg (by omega)]
        obtain ⟨j, hj⟩ : ∃ j, i - n = j + 1 := ⟨i - n - 1, by omega⟩
        rw [hj, List.getElem?_cons_succ]
        congr 1
        omega
theorem tmList_length (tm : PT Value) : ∀ (n : Nat) (acc : List Value), (tmList tm n acc).length = n + acc.length
  | 0, acc => by simp [tmList]
  | n + 1, acc => by rw [tmList, tmList_length tm n]; simp; omega
theorem TR.list {e : Env} {n : Nat} {tm : PT Value} {a : Array Value} (h : TR e n tm a) : VL e (tmList tm n []) a.toList := by
  refine VL.of_get (by rw [tmList_length]; simp [h.size]) fun i v v' hv hv' => ?_
  rw [tmList_get] at hv
  split at hv
  · cases hv
    exact h.val i v' (by simpa using hv')
  · simp at hv
section
variable {P : Program} {T : Tab} {B0 : Nat} {w0 : World}
theorem Goes.block {e : Env} {m : Machine} {b : Frame} {id : Nat} {k : List Item} {cs0 : List Frame} {rcs : Bool} {K : Kcode} (hg : Goes P B0 w0 e m b (.inBlock id :: k) cs0 rcs (kblock id K)) : Goes P B0 w0 e m b k cs0 rcs K := by
  obtain ⟨ex, a, h, e', w, ra, cs, h1, h2, h3, h4, h5, h6, h7⟩ := hg
  cases ex with
  | normal => exact ⟨.normal, a, h, e', w, ra, cs, h1, h2, h3, h4, h5, h6, Steps.trans h7 (.one stepR_inBlock)⟩
  | exit id' =>
    obtain ⟨k', g1, g2⟩ := h7
    replace h1 : cond (Nat.beq id' id) (K .normal a h) (K (.exit id') a h) = true := h1
    cases hq : Nat.beq id' id with
    | true =>
      rw [hq, cond_true] at h1
      have hid := (nbeq _ _).1 hq
      clear hq
      subst hid
      refine ⟨.normal, a, h, e', w, ra, cs, h1, h2, h3, h4, h5, h6, Steps.trans g2 (.one (stepR_exit ?_))⟩
      rw [g1]; simp [exitTo]
    | false =>
      rw [hq, cond_false] at h1
      refine ⟨.exit id', a, h, e', w, ra, cs, h1, h2, h3, h4, h5, h6, k', ?_, g2⟩
      rw [g1]
      have := (nbeq_ff _ _).1 hq
      simp [exitTo, Ne.symm this]
  | ret => exact ⟨.ret, a, h, e', w, ra, cs, h1, h2, h3, h4, h5, h6, h7⟩
  | panic ch => exact ⟨.panic ch, a, h, e', w, ra, cs, h1, h2, h3, h4, h5, h6, h7⟩
def CodeOk (P : Program) (T : Tab) (B0 : Nat) (w0 : World) (fid : FuncId) (rnd : Bool) (c : Code) (run : CAct → CH → Kcode → Bool) : Prop :=
  ∀ (a : CAct) (h : CH) (K : Kcode), run a h K = true → ∀ (e : Env) (w : World) (ra : Act) (b : Frame) (k : List Item) (cs0 cs : List Frame), R B0 w0 e h w → AR e a ra → RC e a.rc cs0 cs → FOk b fid rnd a.rc.isSome →
    Goes P B0 w0 e (lone (b.atR ra (.code c :: k)) cs w) b k cs0 a.rc.isSome K
theorem cloop_sound {fid : FuncId} {rnd : Bool} {c : Code} {run : CAct → CH → Kcode → Bool} (hc : CodeOk P T B0 w0 fid rnd c run) : ∀ (n : Nat) (a : CAct) (h : CH) (K : Kcode), cloop run n a h K = true → ∀ (e : Env) (w : World) (ra : Act) (b : Frame) (k : List Item) (cs0 cs : List Frame), R B0 w0 e h w → AR e a ra → RC e a.rc cs0 cs → FOk b fid rnd a.rc.isSome →
    Goes P B0 w0 e (lone (b.atR ra (.code c :: .inLoop c :: k)) cs w) b k cs0 a.rc.isSome K
  | 0, a, h, K, hr, _, _, _, _, _, _, _, _, _, _, _ => by cases hr
  | n + 1, a, h, K, hr, e, w, ra, b, k, cs0, cs, hR, ha, hrc, hb => by
    have hr : run a h (kthen (fun a h => cloop run n a h K) K) = true := hr
    refine (hc a h _ hr e w ra b (.inLoop c :: k) cs0 cs hR ha hrc hb).bind rfl fun a1 h1 e1 w1 ra1 cs1 g1 g2 g3 g4 g5 g6 => ?_
    have := cloop_sound hc n a1 h1 K g1 e1 w1 ra1 b k cs0 cs1 g3 g4 g5 (by rw [g6]; exact hb)
    rw [g6] at this
    exact this.of_steps (.one stepR_inLoop)
theorem crfEnd_sound {d l : Nat} {a : CAct} {h : CH} {K : Kcode} (hc : crfEnd d l a h K = true) {e : Env} {w : World} {ra : Act} {b : Frame} {k : List Item} {cs0 cs : List Frame} {d' l' : Nat} {x : Nat × Nat} (hd : e d = some (d', 0, 0)) (hl : e l = some (l', x))
    (hR : R B0 w0 e h w) (ha : AR e a ra) (hrc : RC e a.rc cs0 cs) :
    Goes P B0 w0 e (lone (b.atR { ra with defers := [{ target := .collected d', args := #[] }] ++ ra.defers } (.endRangeFunc l' :: k)) cs w) b k cs0 a.rc.isSome K := by
  unfold crfEnd at hc
  split at hc
  · rename_i r hg
    cases hbusy : decide (r.state = .busy) with
    | true => rw [hbusy] at hc; cases hc
    | false =>
      rw [hbusy, cond_false] at hc
      have hbusy := of_decide_eq_false hbusy
      obtain ⟨r', q, he, hw, hB, hLR⟩ := hR.obj _ _ hg
      rw [hl] at he
      cases he
      have hlt : l' < w.heap.size := (Array.getElem?_eq_some_iff.1 hw).1
      have hend : (Instr.endLoop l').run P w = .ok r.pending { w with heap := w.heap.setIfInBounds l' (.loop { q with state := .exhausted }) } := by
        have h1 := getObj_run (P := P) hw (by simp)
        have h2 := setObj_run (P := P) (q' := .loop { q with state := .exhausted }) hw (by simp)
        have h3 : q.state ≠ .busy := by rw [hLR.state]; exact hbusy
        rw [← hLR.pending]
        simp [Instr.endLoop, Instr.getLoop, h1, h2, h3]
      have hst := stepR_endRangeFunc (P := P) (b := b) (a := { ra with defers := [{ target := .collected d', args := #[] }] ++ ra.defers }) (k := k) (cs := cs) hend
      have hbut := But.setObj w l' (.loop { q with state := .exhausted })
      have hR' : R B0 w0 e (h.put l (.loop { r with state := .exhausted })) { w with heap := w.heap.setIfInBounds l' (.loop { q with state := .exhausted }) } :=
        hR.update hg rfl hl (by simp) (fun i hi => by simp only [Array.getElem?_setIfInBounds]; rw [if_neg (by omega)]) rfl rfl rfl
          ⟨l', { q with state := .exhausted }, hl, setObj_at hw, hB, ⟨rfl, hLR.pending, hLR.fn, hLR.params, hLR.assign, hLR.body, hLR.tmps⟩⟩
      have ha' : AR e { a with defers := { target := .collected d, args := #[] } :: a.defers } { ra with defers := [{ target := .collected d', args := #[] }] ++ ra.defers } := ⟨ha.tm, .cons (.coll hd) ha.df⟩
      simp only at hc
      split at hc
      · rename_i hp
        rw [hp] at hst
        exact ⟨.normal, _, _, e, _, _, cs, hc, Ext.refl e, hR', ha', hrc, rfl, .one hst⟩
      · rename_i hp
        rw [hp] at hst
        exact ⟨.ret, _, _, e, _, _, cs, hc, Ext.refl e, hR', ha', hrc, rfl, k, .one hst⟩
      · rename_i id hp
        rw [hp] at hst
        exact ⟨.exit id, _, _, e, _, _, cs, hc, Ext.refl e, hR', ha', hrc, rfl, k, rfl, .one hst⟩
      · cases hc
  · cases hc
theorem crf_sound (hT : TabOk P T) {cf : Callf} (hcf : CallOk P B0 w0 cf) {fid : FuncId} {ps : Array Tmp} {assign body : Code} {f : Operand} {g : Value} {a : CAct} {h : CH} {K : Kcode} (hev : ev a.tm f = some g) (hc : crf T cf fid ps assign body g a h K = true)
    {e : Env} {w : World} {ra : Act} {b : Frame} {k : List Item} {cs0 cs : List Frame} (hR : R B0 w0 e h w) (ha : AR e a ra) (hrc : RC e a.rc cs0 cs) (hb : FOk b fid false a.rc.isSome) :
    Goes P B0 w0 e (lone (b.atR ra (.code (.rangeFunc f ps assign body) :: k)) cs w) b k cs0 a.rc.isSome K := by
  unfold crf at hc
  simp only at hc
  have hg := ev_sound ha.tm hev
  -- the block of the deferred calls
  have hR1 := hR.push (w' := { w with heap := w.heap.push (.deferred (some [])) }) (.deferred (some [])) (.deferred true) 0 0 rfl rfl rfl rfl
    ⟨w.heap.size, upd_same _ _ _, by simp, hR.size⟩
  have he1 := hR.ext (w.heap.size, 0, 0)
  generalize hE1 : upd e h.n (w.heap.size, 0, 0) = e1 at hR1 he1
  have hd1 : e1 h.n = some (w.heap.size, 0, 0) := by rw [← hE1]; exact upd_same _ _ _
  -- the loop's record
  have hR2 := hR1.push (w' := { w with heap := (w.heap.push (.deferred (some []))).push (.loop { state := .ready, pending := none, fn := fid, tmps := ra.tmps, params := ps, assign, body, defers := w.heap.size }) })
    (.loop { state := .ready, pending := none, fn := fid, tmps := ra.tmps, params := ps, assign, body, defers := w.heap.size })
    (.loop { state := .ready, pending := none, fn := fid, tmps := (tmList a.tm a.n []).toArray, params := ps, assign, body, defers := h.n }) 0 0 rfl rfl rfl rfl
    ⟨w.heap.size + 1, { state := .ready, pending := none, fn := fid, tmps := ra.tmps, params := ps, assign, body, defers := w.heap.size }, by rw [upd_same]; simp, by rw [Array.getElem?_push, if_pos (by simp)], by have := hR.size; omega, rfl, rfl, rfl, rfl, rfl, rfl, by
      have := (ha.tm.mono he1).list.mono (hR1.ext ((w.heap.push (Obj.deferred (some []))).size, 0, 0))
      simpa using this⟩
  have he2 := hR1.ext ((w.heap.push (Obj.deferred (some []))).size, 0, 0)
  have hl2 : upd e1 (h.push (.deferred true)).n ((w.heap.push (Obj.deferred (some []))).size, 0, 0) (h.n + 1) = some (w.heap.size + 1, 0, 0) := by
    have : (h.push (.deferred true)).n = h.n + 1 := rfl
    rw [this, upd_same]; simp
  generalize hE2 : upd e1 (h.push (.deferred true)).n ((w.heap.push (Obj.deferred (some []))).size, 0, 0) = e2 at hR2 he2 hl2
  split at hc
  · rename_i fn args hcall
    have hcs := ccallee_sound hT hR2 (hg.mono (he1.trans he2)) (args := [.func (.yield (h.n + 1)) #[] #[]]) (args' := #[.func (.yield (w.heap.size + 1)) #[] #[]]) (.cons (.yield hl2) .nil)
    rw [hcall] at hcs
    obtain ⟨args', g1, g2⟩ := hcs
    have henter : (Instr.enterLoop b.fn ra.tmps ps assign body b.roundOf).run P w = .ok (w.heap.size + 1, [{ target := .collected w.heap.size, args := #[] }])
        { w with heap := (w.heap.push (.deferred (some []))).push (.loop { state := .ready, pending := none, fn := fid, tmps := ra.tmps, params := ps, assign, body, defers := w.heap.size }) } := by
      rw [hb.ro rfl, hb.fn]
      simp [Instr.enterLoop]
      rfl
    have hdo : ∃ d, (Deferred.ofValue (ra.eval f) #[.func (.yield (w.heap.size + 1)) #[] #[]]).run P { w with heap := (w.heap.push (.deferred (some []))).push (.loop { state := .ready, pending := none, fn := fid, tmps := ra.tmps, params := ps, assign, body, defers := w.heap.size }) }
        = .ok d { w with heap := (w.heap.push (.deferred (some []))).push (.loop { state := .ready, pending := none, fn := fid, tmps := ra.tmps, params := ps, assign, body, defers := w.heap.size }) } ∧
        (invoke d.target d.args).run P { w with heap := (w.heap.push (.deferred (some []))).push (.loop { state := .ready, pending := none, fn := fid, tmps := ra.tmps, params := ps, assign, body, defers := w.heap.size }) } =
          .ok (.enter fn args') { w with heap := (w.heap.push (.deferred (some []))).push (.loop { state := .ready, pending := none, fn := fid, tmps := ra.tmps, params := ps, assign, body, defers := w.heap.size }) } := by
      unfold Deferred.ofValue at g1 ⊢
      split at g1 <;> simp_all
    obtain ⟨d, hd1', hd2⟩ := hdo
    have hst := stepR_rangeFunc (P := P) (b := b) (a := ra) (k := k) (cs := cs) henter (g := f) (d := d) (by simpa [resolve, rangeCall, Act.eval] using hd1') hd2
    obtain ⟨res, h', e', w', fr, en, k1, k2, k3, k4, k5, k6, k7⟩ := hcf.call fn args _ _ hc e2 _ hR2 args' g2 (b.atR { ra with defers := [{ target := .collected w.heap.size, args := #[] }] ++ ra.defers } (.inRangeFunc (w.heap.size + 1) :: k) :: cs)
    cases res with
    | ret v =>
      cases en with
      | returned v' =>
        have hl := step_leave_returned (c := b.atR { ra with defers := [{ target := .collected w.heap.size, args := #[] }] ++ ra.defers } (.inRangeFunc (w.heap.size + 1) :: k)) (cs := cs) k7
        rw [finish_atR_inRangeFunc] at hl
        have hx := he1.trans (he2.trans k2)
        have := crfEnd_sound (P := P) (b := b) (k := k) (cs := cs) (cs0 := cs0) k1 (k2 _ _ (he2 _ _ hd1)) (k2 _ _ hl2) k3 (ha.mono hx) (hrc.mono hx)
        exact (this.of_steps ((Steps.one hst).trans (k5.trans (.one hl)))).ext hx
      | panicked _ => exact k4.elim
      | outgrown => exact k4.elim
    | panic ch => cases k1
  · cases hc
theorem ccode_sound (hT : TabOk P T) {cf : Callf} (hcf : CallOk P B0 w0 cf) (L : Nat) (fid : FuncId) (rnd : Bool) : ∀ c : Code, CodeOk P T B0 w0 fid rnd c (ccode T cf L fid rnd c)
  | .skip => fun a h K hr e w ra b k cs0 cs hR ha hrc hb => ⟨.normal, a, h, e, w, ra, cs, hr, Ext.refl e, hR, ha, hrc, rfl, .one stepR_skip⟩
  | .label _ => fun a h K hr e w ra b k cs0 cs hR ha hrc hb => ⟨.normal, a, h, e, w, ra, cs, hr, Ext.refl e, hR, ha, hrc, rfl, .one stepR_label⟩
  | .seq x y => fun a h K hr e w ra b k cs0 cs hR ha hrc hb => by
    have hr : ccode T cf L fid rnd x a h (kthen (fun a h => ccode T cf L fid rnd y a h K) K) = true := hr
    refine Goes.of_steps (.one stepR_seq) ((ccode_sound hT hcf L fid rnd x a h _ hr e w ra b (.code y :: k) cs0 cs hR ha hrc hb).bind rfl fun a1 h1 e1 w1 ra1 cs1 g1 g2 g3 g4 g5 g6 => ?_)
    have := ccode_sound hT hcf L fid rnd y a1 h1 K g1 e1 w1 ra1 b k cs0 cs1 g3 g4 g5 (by rw [g6]; exact hb)
    rw [g6] at this
    exact this
  | .cond c x y => fun a h K hr e w ra b k cs0 cs hR ha hrc hb => by
    have hr : ccond (ev a.tm c) (fun _ => ccode T cf L fid rnd x a h K) (fun _ => ccode T cf L fid rnd y a h K) = true := hr
    unfold ccond at hr
    split at hr
    · rename_i hc
      have := (ev_sound ha.tm hc).bool
      exact Goes.of_steps (.one (stepR_cond this)) (ccode_sound hT hcf L fid rnd x a h K hr e w ra b k cs0 cs hR ha hrc hb)
    · rename_i hc
      have := (ev_sound ha.tm hc).bool
      exact Goes.of_steps (.one (stepR_cond this)) (ccode_sound hT hcf L fid rnd y a h K hr e w ra b k cs0 cs hR ha hrc hb)
    · cases hr
  | .block id c => fun a h K hr e w ra b k cs0 cs hR ha hrc hb =>
    Goes.of_steps (.one stepR_block) (ccode_sound hT hcf L fid rnd c a h (kblock id K) hr e w ra b (.inBlock id :: k) cs0 cs hR ha hrc hb).block
  | .loop c => fun a h K hr e w ra b k cs0 cs hR ha hrc hb =>
    Goes.of_steps (.one stepR_loop) (cloop_sound (ccode_sound hT hcf L fid rnd c) L a h K hr e w ra b k cs0 cs hR ha hrc hb)
  | .scope c => fun a h K hr e w ra b k cs0 cs hR ha hrc hb => by
    have := ccode_sound hT hcf L fid rnd c a h K hr e w ra b (.inScope c :: k) cs0 cs hR ha hrc hb
    refine Goes.of_steps (.one stepR_scope) ?_
    obtain ⟨ex, a, h, e', w, ra, cs, h1, h2, h3, h4, h5, h6, h7⟩ := this
    cases ex with
    | normal => exact ⟨.normal, a, h, e', w, ra, cs, h1, h2, h3, h4, h5, h6, Steps.trans h7 (.one stepR_inScope)⟩
    | exit id => obtain ⟨k', g1, g2⟩ := h7; exact ⟨.exit id, a, h, e', w, ra, cs, h1, h2, h3, h4, h5, h6, k', g1, g2⟩
    | ret => exact ⟨.ret, a, h, e', w, ra, cs, h1, h2, h3, h4, h5, h6, h7⟩
    | panic ch => exact ⟨.panic ch, a, h, e', w, ra, cs, h1, h2, h3, h4, h5, h6, h7⟩
  | .exit id => fun a h K hr e w ra b k cs0 cs hR ha hrc hb => ⟨.exit id, a, h, e, w, ra, cs, hr, Ext.refl e, hR, ha, hrc, rfl, k, rfl, .refl P _⟩
  | .ret => fun a h K hr e w ra b k cs0 cs hR ha hrc hb => ⟨.ret, a, h, e, w, ra, cs, hr, Ext.refl e, hR, ha, hrc, rfl, k, .refl P _⟩
  | .region id ops d => fun a h K hr e w ra b k cs0 cs hR ha hrc hb => cregion_sound hT hcf hr hR ha hrc hb
  | .rangeFunc f ps assign body => fun a h K hr e w ra b k cs0 cs hR ha hrc hb => by
    have hr : cond rnd false (match ev a.tm f with
      | some g => crf T cf fid ps assign body g a h K
      | none => false) = true := hr
    cases rnd with
    | true => cases hr
    | false =>
      rw [cond_false] at hr
      split at hr
      · rename_i g hg; exact crf_sound hT hcf hg hr hR ha hrc hb
      · cases hr
  | .goto _ => fun a h K hr => by cases hr
  | .refuse _ => fun a h K hr => by cases hr
end
end Go.Cx
set_option linter.unusedSimpArgs false
set_option linter.unusedVariables false
namespace Go.Cx
open Go.RowKit (Below)
theorem settleC_eq : settleC = settle := by
  funext m
  unfold settleC settle
  rfl
theorem raisedC_eq : raisedC = raised := by
  funext m c
  unfold raisedC raised
  rfl
theorem PL.dropWhile {e : Env} : ∀ {l l' : List PanicEntry}, PL e l l' → PL e (l.dropWhile (!·.goexit)) (l'.dropWhile (!·.goexit))
  | _, _, .nil => .nil
  | _, _, .cons (g := g) h t => by
    cases g with
    | true => simpa using PL.cons h t
    | false => simpa using t.dropWhile
theorem MR.settle {e : Env} {m m' : FrameMode} (h : MR e m m') : MR e (settle m) (settle m') := by
  cases h with
  | ret => exact .ret
  | pan h =>
    cases h with
    | nil => exact .pan .nil
    | cons hv ht =>
      rename_i v v' r g l l'
      cases r with
      | false => exact .pan (.cons hv ht)
      | true =>
        have := ht.dropWhile
        unfold Go.settle
        simp only
        generalize l.dropWhile (!·.goexit) = x at this
        generalize l'.dropWhile (!·.goexit) = y at this
        cases this with
        | nil => exact .ret
        | cons h t => exact .pan (.cons h t)
theorem MR.raised {e : Env} {m m' : FrameMode} (h : MR e m m') {c c' : List PanicEntry} (hc : PL e c c') : MR e (raised m c) (raised m' c') := by
  cases h with
  | ret => exact .pan hc
  | pan h => exact .pan (hc.append h)
theorem MR.run {e : Env} {m m' : FrameMode} (h : MR e m m') : m' ≠ .run := by cases h <;> simp
section
variable {P : Program} {T : Tab} {B0 : Nat} {w0 w : World} {e : Env} {h : CH}
theorem step_collected {fr : Frame} {cs : List Frame} {block : Nat} {A : Array Value} {ds l : List Deferred} (hm : fr.mode ≠ .run) (hd : fr.defers = { target := .collected block, args := A } :: ds) (hb : w.heap[block]? = some (.deferred (some l))) :
    step P (lone fr cs w) = .next (lone { fr with defers := l ++ ds } cs { w with heap := w.heap.setIfInBounds block (.deferred none) }) := by
  have h1 := getObj_run (P := P) hb (by simp)
  have h2 := setObj_run (P := P) (q' := .deferred none) hb (by simp)
  have h3 : (Instr.takeDeferred block).run P w = .ok l { w with heap := w.heap.setIfInBounds block (.deferred none) } := by
    simp [Instr.takeDeferred, h1, h2]
  refine step_lone_go ?_
  cases hmode : fr.mode with
  | run => exact absurd hmode hm
  | returning => simp [stepG, unwind, hmode, hd, Sem.runT_eq, h3, GStep.bare_after]
  | panicking chain => simp [stepG, unwind, hmode, hd, Sem.runT_eq, h3, GStep.bare_after]
def readRes (a : Array Value) : ResultVar → Sem Value
  | .tmp t => pure (a.getD t undef)
  | .cell x t => do loadVar t (← asAddr (a.getD x undef))
theorem results_eq (fn : Func) (a : Array Value) : results fn a = (do let vs ← fn.results.mapM (readRes a); pure (if h : vs.size = 1 then vs[0] else .tuple vs)) := by
  unfold results
  have : (fun x => match x with | ResultVar.tmp t => (pure (a.getD t undef) : Sem Value) | ResultVar.cell x t => do let y ← asAddr (a.getD x undef); loadVar t y) = readRes a := by
    funext x; cases x <;> rfl
  rw [← this]
  rfl
theorem cresults1_sound (hT : TabOk P T) (hR : R B0 w0 e h w) {n : Nat} {tm : PT Value} {a : Array Value} (ht : TR e n tm a) : ∀ {l : List ResultVar} {vs : List Value}, cresults1 T tm h l = some vs →
    ∃ vs', (l.mapM (readRes a)).run P w = .ok vs' w ∧ VL e vs vs'
  | [], vs, hv => by cases hv; exact ⟨[], by simp, .nil⟩
  | r :: l, vs, hv => by
    obtain ⟨v, h1, h2⟩ := obind hv
    obtain ⟨vs1, h3, rfl⟩ := omap h2
    obtain ⟨vs', g1, g2⟩ := cresults1_sound hT hR ht h3
    cases r with
    | tmp t =>
      obtain ⟨v', g3, g4⟩ := ht.get h1
      refine ⟨v' :: vs', ?_, .cons g4 g2⟩
      simp [List.mapM_cons, g1, g3, readRes]
    | cell x t =>
      obtain ⟨u, h4, h5⟩ := obind h1
      obtain ⟨u', g3, g4⟩ := ht.get h4
      obtain ⟨v', g5, g6⟩ := cload_sound hT hR g4 h5
      refine ⟨v' :: vs', ?_, .cons g6 g2⟩
      obtain ⟨p, hp, _⟩ := obind h5
      rw [ptrOf_some hp] at g4
      obtain ⟨r, sh, K, he, rfl⟩ := g4.ptrI
      have g5 : (loadVar t ⟨r, sh + p.2, none⟩).run P w = .ok v' w := by simpa [Instr.loadAt, Instr.sureAddr] using g5
      simp [List.mapM_cons, g1, g3, g5, readRes, asAddr]
theorem cresults_sound (hT : TabOk P T) (hR : R B0 w0 e h w) {n : Nat} {tm : PT Value} {a : Array Value} (ht : TR e n tm a) {fn : Func} {v : Value} (hv : cresults T fn tm h = some v) : ∃ v', (results fn a).run P w = .ok v' w ∧ VR e v v' := by
  obtain ⟨vs, h1, rfl⟩ := omap hv
  obtain ⟨vs', h2, h3⟩ := cresults1_sound hT hR ht h1
  rw [results_eq]
  have h4 : (fn.results.mapM (readRes a)).run P w = .ok vs'.toArray w := by
    rw [Array.mapM_eq_mapM_toList]
    simp [h2]
  simp only [Sem.run_bind, h4, Result.andThen]
  cases h3 with
  | nil => exact ⟨_, rfl, .tuple .nil⟩
  | cons hq ht' =>
    cases ht' with
    | nil => exact ⟨_, rfl, hq⟩
    | cons h5 h6 => exact ⟨_, rfl, .tuple (.cons hq (.cons h5 h6))⟩
end
end Go.Cx
set_option linter.unusedSimpArgs false
set_option linter.unusedVariables false
namespace Go.Cx
open Go.RowKit (Below)
section
variable {P : Program} {T : Tab} {B0 : Nat} {w0 : World}
theorem cleave_sound (hT : TabOk P T) {cf : Callf} (hcf : CallOk P B0 w0 cf) {fn : Func} {tm : PT Value} {rc : Option FrameMode} {n : Nat} : ∀ (ds : List Deferred) (m : FrameMode) (h : CH) (K : Kall), cleave T cf fn tm rc ds m h K = true →
    ∀ (e : Env) (w : World) (fr : Frame) (cs : List Frame), R B0 w0 e h w → MR e m fr.mode → DL e ds fr.defers → TR e n tm fr.tmps → P.funcs[fr.fn]? = some fn →
    ∃ res h' e' w' fr' en, K res rc h' = true ∧ Ext e e' ∧ R B0 w0 e' h' w' ∧ ResR e' res en ∧ Steps P (lone fr cs w) (lone fr' cs w') ∧ fr'.fn = fr.fn ∧ fr'.kind = fr.kind ∧ fr'.going P w' en
  | [], m, h, K, hc, e, w, fr, cs, hR, hm, hd, ht, hf => by
    have hc : cleave0 T fn tm rc m h K = true := hc
    have hd : fr.defers = [] := by
      generalize fr.defers = l at hd
      cases hd; rfl
    unfold cleave0 at hc
    split at hc
    · split at hc
      · rename_i v hv
        obtain ⟨v', h1, h2⟩ := cresults_sound hT hR ht hv
        refine ⟨.ret v, h, e, w, fr, .returned v', hc, Ext.refl e, hR, h2, .refl P _, rfl, rfl, ?_, hd, fn, hf, h1⟩
        generalize fr.mode = q at hm
        cases hm; rfl
      · cases hc
    · rename_i chain hcc
      obtain ⟨chain', h1, h2⟩ : ∃ chain', fr.mode = .panicking chain' ∧ PL e chain chain' := by
        generalize fr.mode = q at hm
        cases hm with
        | pan hp => exact ⟨_, rfl, hp⟩
      exact ⟨.panic chain, h, e, w, fr, .panicked chain', hc, Ext.refl e, hR, h2, .refl P _, rfl, rfl, h1, hd, fn, hf⟩
    · cases hc
  | d :: ds, m, h, K, hc, e, w, fr, cs, hR, hm, hd, ht, hf => by
    have hc : cleaveD T cf d m h (fun m h => cleave T cf fn tm rc ds m h K) = true := hc
    obtain ⟨d', ds', hdef, hdr, hdl⟩ : ∃ d' ds', fr.defers = d' :: ds' ∧ DR e d d' ∧ DL e ds ds' := by
      generalize fr.defers = l at hd
      cases hd with
      | cons h1 h2 => exact ⟨_, _, rfl, h1, h2⟩
    cases hdr with
    | @coll bk r hbr =>
      unfold cleaveD at hc
      simp only at hc
      split at hc
      · rename_i hg
        obtain ⟨r', he, hw, hB⟩ := hR.obj _ _ hg
        rw [hbr] at he
        cases he
        have hst := step_collected (P := P) (cs := cs) hm.run hdef hw
        have hR' : R B0 w0 e (h.put bk (.deferred false)) { w with heap := w.heap.setIfInBounds r (.deferred none) } :=
          hR.update hg rfl hbr (by simp) (fun i hi => by simp only [Array.getElem?_setIfInBounds]; rw [if_neg (by omega)]) rfl rfl rfl ⟨r, hbr, setObj_at hw, hB⟩
        obtain ⟨res, h', e', w', fr', en, k1, k2, k3, k4, k5, k6, k7, k8⟩ := cleave_sound hT hcf ds m _ K hc e _ { fr with defers := [] ++ ds' } cs hR' hm hdl ht hf
        exact ⟨res, h', e', w', fr', en, k1, k2, k3, k4, (Steps.one hst).trans k5, k6, k7, k8⟩
      · cases hc
    | @call f cap cap' args args' hcap hargs =>
      unfold cleaveD at hc
      simp only at hc
      split at hc
      · rename_i fn1 hfn1
        have hinv : (invoke (.fn (.func f) cap') args').run P w = .ok (.enter f (args' ++ cap')) w := by
          have := (hT.fn _ _ hfn1).2 (args' ++ cap') w
          simpa [invoke] using this
        have hst := step_defer (P := P) (cs := cs) hm.run hdef rfl hinv
        obtain ⟨res, m1, h', e', w', fr', en, m1', k1, k2, k3, k4, k5, k6, k7, k8⟩ := hcf.defer f _ m h _ hc e w hR (args' ++ cap') (by simpa using hargs.append hcap) { fr with defers := ds' } cs hm
        simp only at k1
        cases res with
        | ret v =>
          cases en with
          | returned v' =>
            have h2 := step_going_returned (c := { { fr with defers := ds' } with mode := m1' }) (cs := cs) k7 k8
            rw [settleC_eq] at k1
            obtain ⟨res2, h2', e2, w2, fr2, en2, j1, j2, j3, j4, j5, j6, j7, j8⟩ := cleave_sound hT hcf ds _ _ K k1 e' w' { { { fr with defers := ds' } with mode := m1' } with mode := settle m1' } cs k3 k5.settle (hdl.mono k2) (ht.mono k2) hf
            exact ⟨res2, h2', e2, w2, fr2, en2, j1, k2.trans j2, j3, j4, (Steps.one hst).trans (k6.trans ((Steps.one h2).trans j5)), j6, j7, j8⟩
          | panicked _ => exact k4.elim
          | outgrown => exact k4.elim
        | panic ch =>
          cases en with
          | returned v' => exact k4.elim
          | panicked ch' =>
            have h2 := step_going_panicked (c := { { fr with defers := ds' } with mode := m1' }) (cs := cs) k8
            rw [raisedC_eq] at k1
            obtain ⟨res2, h2', e2, w2, fr2, en2, j1, j2, j3, j4, j5, j6, j7, j8⟩ := cleave_sound hT hcf ds _ _ K k1 e' w' { { { fr with defers := ds' } with mode := m1' } with mode := raised m1' ch' } cs k3 (k5.raised k4) (hdl.mono k2) (ht.mono k2) hf
            exact ⟨res2, h2', e2, w2, fr2, en2, j1, k2.trans j2, j3, j4, (Steps.one hst).trans (k6.trans ((Steps.one h2).trans j5)), j6, j7, j8⟩
          | outgrown => exact k4.elim
      · cases hc
theorem TR.args {e : Env} {l : List Value} {a : Array Value} (hl : VL e l a.toList) {n : Nat} (hn : l.length ≤ n) : TR e n (argsTree l 0 .nil) (a ++ Array.replicate (n - a.size) undef) := by
  have hlen : l.length = a.size := hl.length.trans Array.length_toList
  have ht := TR.of_VL hl
  refine ⟨by simp; omega, fun t v hv => Nat.lt_of_lt_of_le (ht.lt t v hv) hn, fun t v' hv' => ?_⟩
  by_cases htl : t < a.size
  · rw [Array.getElem?_append_left htl] at hv'
    exact ht.val t v' hv'
  · rw [Array.getElem?_append_right (by omega), Array.getElem?_replicate] at hv'
    split at hv'
    · cases hv'
      have : (argsTree l 0 .nil).get t = none := by
        cases hg : (argsTree l 0 .nil).get t with
        | none => rfl
        | some v => have := ht.lt t v hg; omega
      rw [this]
      exact VR.undef
    · cases hv'
theorem body_sound (hT : TabOk P T) {cf : Callf} (hcf : CallOk P B0 w0 cf) {L : Nat} {f : FuncId} {fn : Func} {c : Code} {args : List Value} {args' : Array Value} {rc : Option FrameMode} {kind : CallKind} {h : CH} {K : Kall} (hfn : T.fn f = some fn) (hb : fn.body = some c) (hlen : args.length ≤ fn.ntmps)
    (hc : ccode T cf L f false c { n := fn.ntmps, tm := argsTree args 0 .nil, defers := [], rc } h (kleave T cf fn K) = true) {e : Env} {w : World} (hR : R B0 w0 e h w) (ha : VL e args args'.toList) {cs0 : List Frame} (hrc : RC e rc cs0 cs0) (hk : rc.isSome = true → kind = .deferred) :
    ∃ res rc' h' e' w' fr en cs, K res rc' h' = true ∧ Ext e e' ∧ R B0 w0 e' h' w' ∧ ResR e' res en ∧ RC e' rc' cs0 cs ∧ rc'.isSome = rc.isSome ∧ Steps P (lone (Frame.enter P f args' kind) cs0 w) (lone fr cs w') ∧ fr.fn = f ∧ fr.kind = kind ∧ fr.going P w' en := by
  let b : Frame := { (default : Frame) with fn := f, kind := kind }
  have hpf := (hT.fn _ _ hfn).1
  have henter : Frame.enter P f args' kind = b.atR { tmps := args' ++ Array.replicate (fn.ntmps - args'.size) undef, defers := [] } [.code c] := by
    simp [Frame.enter, Frame.atR, hpf, hb, b]
    rfl
  rw [henter]
  have hgo := ccode_sound hT hcf L f false c _ h _ hc e w { tmps := args' ++ Array.replicate (fn.ntmps - args'.size) undef, defers := [] } b [] cs0 cs0 hR ⟨TR.args ha hlen, .nil⟩ hrc ⟨rfl, fun _ => rfl, fun hh => ⟨hk hh, rfl⟩⟩
  obtain ⟨ex, a, h', e', w', ra, cs, h1, h2, h3, h4, h5, h6, h7⟩ := hgo
  have key : ∀ (m : FrameMode) (fr : Frame), cleave T cf fn a.tm a.rc a.defers m h' K = true → MR e' m fr.mode → fr.tmps = ra.tmps → fr.defers = ra.defers → fr.fn = f → fr.kind = kind → Steps P (lone (b.atR { tmps := args' ++ Array.replicate (fn.ntmps - args'.size) undef, defers := [] } [.code c]) cs0 w) (lone fr cs w') →
      ∃ res rc' h' e' w' fr en cs, K res rc' h' = true ∧ Ext e e' ∧ R B0 w0 e' h' w' ∧ ResR e' res en ∧ RC e' rc' cs0 cs ∧ rc'.isSome = rc.isSome ∧ Steps P (lone (b.atR { tmps := args' ++ Array.replicate (fn.ntmps - args'.size) undef, defers := [] } [.code c]) cs0 w) (lone fr cs w') ∧ fr.fn = f ∧ fr.kind = kind ∧ fr.going P w' en := by
    intro m fr hcl hm ht hd hfn' hk' hst
    obtain ⟨res, h2', e2, w2, fr2, en, j1, j2, j3, j4, j5, j6, j7, j8⟩ := cleave_sound hT hcf (n := a.n) a.defers m h' K hcl e' w' fr cs h3 hm (hd ▸ h4.df) (ht ▸ h4.tm) (by rw [hfn']; exact hpf)
    exact ⟨res, a.rc, h2', e2, w2, fr2, en, cs, j1, h2.trans j2, j3, j4, h5.mono j2, h6, hst.trans j5, j6.trans hfn', j7.trans hk', j8⟩
  cases ex with
  | normal => exact key .returning { b.atR ra [] with mode := .returning } h1 .ret rfl rfl rfl rfl (Steps.trans h7 (.one (stepR_end rfl)))
  | ret =>
    obtain ⟨k', g1⟩ := h7
    exact key .returning { b.atR ra (.code .ret :: k') with mode := .returning } h1 .ret rfl rfl rfl rfl (Steps.trans g1 (.one (stepR_ret rfl)))
  | panic chain =>
    obtain ⟨chain', todo, g1, g2⟩ := h7
    exact key (.panicking chain) { b.atR ra todo with mode := .panicking chain' } h1 (.pan g1) rfl rfl rfl rfl g2
  | exit id => cases h1
theorem cend_sound {l : Nat} {jump : Option Code} {h : CH} {K : Kall} (hc : cend l jump h K = true) {e : Env} {w : World} (hR : R B0 w0 e h w) {l' : Nat} {x : Nat × Nat} (hl : e l = some (l', x)) :
    ∃ h' w', K (.ret (.bool jump.isNone)) none h' = true ∧ R B0 w0 e h' w' ∧ (Instr.endRound l' jump).run P w = .ok (.bool jump.isNone) w' := by
  unfold cend at hc
  split at hc
  · rename_i r hg
    obtain ⟨r', q, he, hw, hB, hLR⟩ := hR.obj _ _ hg
    rw [hl] at he
    cases he
    refine ⟨_, { w with heap := w.heap.setIfInBounds l' (.loop { q with state := if jump.isNone then .ready else .done, pending := jump }) }, hc, ?_, ?_⟩
    · exact hR.update hg rfl hl (by simp) (fun i hi => by simp only [Array.getElem?_setIfInBounds]; rw [if_neg (by omega)]) rfl rfl rfl
        ⟨l', { q with state := if jump.isNone then .ready else .done, pending := jump }, hl, setObj_at hw, hB, ⟨rfl, rfl, hLR.fn, hLR.params, hLR.assign, hLR.body, hLR.tmps⟩⟩
    · have h1 := getObj_run (P := P) hw (by simp)
      have h2 := setObj_run (P := P) (q' := .loop { q with state := if jump.isNone then .ready else .done, pending := jump }) hw (by simp)
      simp only [Instr.endRound, Instr.getLoop, Sem.run_bind, h1, Result.andThen, h2, Sem.run_pure]
  · cases hc
theorem round_sound (hT : TabOk P T) {cf : Callf} (hcf : CallOk P B0 w0 cf) {L l : Nat} {f : FuncId} {n : Nat} {tm : PT Value} {assign body : Code} {h : CH} {K : Kall}
    (hc : ccode T cf L f true assign { n, tm, defers := [], rc := none } h (cround1 T cf L l f body K) = true) {e : Env} {w : World} (hR : R B0 w0 e h w) {l' : Nat} {x : Nat × Nat} {tmps' : Array Value} (hl : e l = some (l', x)) (ht : TR e n tm tmps') (c : Frame) (cs : List Frame) :
    ∃ v h' e' w' v', K (.ret v) none h' = true ∧ Ext e e' ∧ R B0 w0 e' h' w' ∧ VR e' v v' ∧ Steps P (lone (Frame.round l' f tmps' assign body .normal) (c :: cs) w) (lone (c.finish v') cs w') := by
  let b : Frame := { (default : Frame) with fn := f, kind := .normal, roundOf := some l' }
  have hb0 : Frame.round l' f tmps' assign body .normal = b.atR { tmps := tmps', defers := [] } [.code assign, .beginRound, .code body] := by
    simp [Frame.round, Frame.atR, b]
  rw [hb0]
  have hgo := ccode_sound hT hcf L f true assign _ h _ hc e w { tmps := tmps', defers := [] } b [.beginRound, .code body] (c :: cs) (c :: cs) hR ⟨ht, .nil⟩ rfl ⟨rfl, (fun hh => by cases hh), fun hh => by cases hh⟩
  obtain ⟨ex, a, h1, e1, w1, ra, cs1, g1, g2, g3, g4, g5, g6, g7⟩ := hgo
  unfold cround1 at g1
  split at g1
  · split at g1
    · rename_i r hg
      cases hrd : decide (r.state = .ready) with
      | false => rw [hrd] at g1; cases g1
      | true =>
        rw [hrd, cond_true] at g1
        have hrd := of_decide_eq_true hrd
        have hrc : a.rc = none := by
          cases har : a.rc with
          | none => rfl
          | some m => rw [har] at g6; cases g6
        rw [hrc] at g5
        have g5 : cs1 = c :: cs := g5
        subst g5
        obtain ⟨r', q, he, hw, hB, hLR⟩ := g3.obj _ _ hg
        have hl1 := g2 _ _ hl
        rw [hl1] at he
        cases he
        have hR2 : R B0 w0 e1 (h1.put l (.loop { r with state := .busy })) { w1 with heap := w1.heap.setIfInBounds l' (.loop { q with state := .busy }) } :=
          g3.update hg rfl hl1 (by simp) (fun i hi => by simp only [Array.getElem?_setIfInBounds]; rw [if_neg (by omega)]) rfl rfl rfl
            ⟨l', { q with state := .busy }, hl1, setObj_at hw, hB, ⟨rfl, hLR.pending, hLR.fn, hLR.params, hLR.assign, hLR.body, hLR.tmps⟩⟩
        have hbegin : (Instr.beginRound l').run P w1 = .ok () { w1 with heap := w1.heap.setIfInBounds l' (.loop { q with state := .busy }) } := by
          have j1 := getObj_run (P := P) hw (by simp)
          have j2 := setObj_run (P := P) (q' := .loop { q with state := .busy }) hw (by simp)
          have j3 : q.state = .ready := by rw [hLR.state]; exact hrd
          simp [Instr.beginRound, Instr.getLoop, j1, j2, j3]
        have s1 := stepR_beginRound (P := P) (b := b) (a := ra) (k := [.code body]) (cs := c :: cs) rfl hbegin
        have hgo2 := ccode_sound hT hcf L f true body a _ _ g1 e1 _ ra b [] (c :: cs) (c :: cs) hR2 g4 (by rw [hrc]; rfl) ⟨rfl, (fun hh => by cases hh), fun hh => by rw [hrc] at hh; cases hh⟩
        obtain ⟨ex2, a2, h2, e2, w2, ra2, cs2, k1, k2, k3, k4, k5, k6, k7⟩ := hgo2
        have hrc2 : a2.rc = none := by
          rw [hrc] at k6
          cases har : a2.rc with
          | none => rfl
          | some m => rw [har] at k6; cases k6
        rw [hrc2] at k5
        have k5 : cs2 = c :: cs := k5
        subst k5
        have hl2 := k2 _ _ hl1
        have pre : Steps P (lone (b.atR { tmps := tmps', defers := [] } [.code assign, .beginRound, .code body]) (c :: cs) w) (lone (b.atR ra [.code body]) (c :: cs) { w1 with heap := w1.heap.setIfInBounds l' (.loop { q with state := .busy }) }) := Steps.trans g7 (.one s1)
        cases ex2 with
        | normal =>
          have k1 : cend l none h2 K = true := k1
          obtain ⟨h3, w3, j1, j2, j3⟩ := cend_sound (P := P) k1 k3 hl2
          exact ⟨_, h3, e2, w3, _, j1, g2.trans k2, j2, .flat rfl, pre.trans (Steps.trans k7 (.one (stepR_round_end rfl rfl j3)))⟩
        | ret =>
          have k1 : cend l (some .ret) h2 K = true := k1
          obtain ⟨h3, w3, j1, j2, j3⟩ := cend_sound (P := P) k1 k3 hl2
          obtain ⟨k', hk'⟩ := k7
          exact ⟨_, h3, e2, w3, _, j1, g2.trans k2, j2, .flat rfl, pre.trans (Steps.trans hk' (.one (stepR_round_ret rfl rfl j3)))⟩
        | exit id =>
          have k1 : cend l (some (.exit id)) h2 K = true := k1
          obtain ⟨h3, w3, j1, j2, j3⟩ := cend_sound (P := P) k1 k3 hl2
          obtain ⟨k', hx, hk'⟩ := k7
          exact ⟨_, h3, e2, w3, _, j1, g2.trans k2, j2, .flat rfl, pre.trans (Steps.trans hk' (.one (stepR_round_exit rfl rfl hx j3)))⟩
        | panic ch => cases k1
    · cases g1
  · cases g1
theorem ccall_sound (hT : TabOk P T) (L : Nat) : ∀ n : Nat, CallOk P B0 w0 (ccall T L n)
  | 0 => ⟨fun _ _ _ _ h => (by cases h), fun _ _ _ _ _ h => (by cases h), fun _ _ _ _ _ _ _ _ h => (by cases h)⟩
  | n + 1 => by
    have ih := ccall_sound hT L n
    have fnc : ∀ f args rc h K, ccallS T (ccall T L n) L (.fn f args) rc h K = true → ∃ fn c, T.fn f = some fn ∧ fn.body = some c ∧ args.length ≤ fn.ntmps ∧ ccode T (ccall T L n) L f false c { n := fn.ntmps, tm := argsTree args 0 .nil, defers := [], rc } h (kleave T (ccall T L n) fn K) = true := by
      intro f args rc h K hc
      unfold ccallS at hc
      simp only at hc
      split at hc
      · rename_i fn hfn
        split at hc
        · rename_i c hb
          cases hl : Nat.ble args.length fn.ntmps with
          | false => rw [hl] at hc; cases hc
          | true => rw [hl] at hc; exact ⟨fn, c, hfn, hb, (nble _ _).1 hl, hc⟩
        · cases hc
      · cases hc
    refine ⟨fun f args h K hc e w hR args' ha cs => ?_, fun f args m h K hc e w hR args' ha c cs hm => ?_, fun l f n tm as_ bd h K hc e w hR l' x tmps' hl ht c cs => ?_⟩
    · obtain ⟨fn, c, h1, h2, h3, h4⟩ := fnc f args none h K hc
      obtain ⟨res, rc', h', e', w', fr, en, cs', k1, k2, k3, k4, k5, k6, k7, k8, k9, k10⟩ := body_sound hT ih h1 h2 h3 h4 hR ha (cs0 := cs) (kind := .normal) rfl (fun hh => by cases hh)
      have hrc : rc' = none := by
        cases rc' with
        | none => rfl
        | some m => cases k6
      subst hrc
      have k5 : cs' = cs := k5
      subst k5
      refine ⟨res, h', e', w', fr, en, k1, k2, k3, k4, k7, k8, ?_⟩
      cases en with
      | returned v => exact ⟨k10.1, k10.2.1, k9, k10.2.2⟩
      | panicked ch => exact k10
      | outgrown => trivial
    · obtain ⟨fn, c1, h1, h2, h3, h4⟩ := fnc f args (some m) h K hc
      obtain ⟨res, rc', h', e', w', fr, en, cs', k1, k2, k3, k4, k5, k6, k7, k8, k9, k10⟩ := body_sound hT ih h1 h2 h3 h4 hR ha (cs0 := c :: cs) (kind := .deferred) ⟨c, cs, c.mode, rfl, rfl, hm⟩ (fun _ => rfl)
      cases rc' with
      | none => cases k6
      | some m1 =>
        obtain ⟨c0, r0, m1', q1, q2, q3⟩ := k5
        cases q1
        subst q2
        exact ⟨res, m1, h', e', w', fr, en, m1', k1, k2, k3, k4, q3, k7, k9, k10⟩
    · exact round_sound hT ih hc hR hl ht c cs
theorem closed_sound {P : Program} {T : Tab} (hT : TabOk P T) {L n f : Nat} (hc : closedTrue T L n f = true) (w : World) : Calls P f #[] w fun en w' => en = .returned (.bool true) ∧ Below w.heap.size w w' := by
  intro cs
  have hR : R w.heap.size w (fun _ => none) { n := 0, t := .nil } w :=
    ⟨⟨rfl, rfl, rfl, Nat.le_refl _, fun _ _ => rfl⟩, Nat.le_refl _, fun _ _ => rfl, fun _ _ => rfl, (fun b o hb => by cases hb), (fun b b' o o' r x x' hb => by cases hb)⟩
  obtain ⟨res, h', e', w', fr, en, k1, k2, k3, k4, k5, k6, k7⟩ := (ccall_sound (B0 := w.heap.size) (w0 := w) hT L n).call f [] { n := 0, t := .nil } _ hc _ w hR #[] .nil cs
  split at k1
  · rename_i b
    subst k1
    cases en with
    | returned v' =>
      have : v' = .bool true := VR.bool k4
      subst this
      exact ⟨_, w', fr, ⟨rfl, k3.below⟩, k5, k6, k7⟩
    | panicked _ => exact k4.elim
    | outgrown => exact k4.elim
  · cases k1
end
end Go.Cx
set_option linter.unusedSimpArgs false
set_option linter.unusedVariables false
namespace Go.Cx
theorem odds_get {α : Type} : ∀ (l : List α) (j : Nat), (odds l)[j]? = l[2 * j + 1]?
  | [], j => by simp [odds]
  | [x], j => by simp [odds]
  | x :: y :: r, 0 => by simp [odds]
  | x :: y :: r, j + 1 => by
    have := odds_get r j
    simp only [odds, List.getElem?_cons_succ, this]
    rw [show 2 * (j + 1) = (2 * j + 1) + 1 by omega, List.getElem?_cons_succ]
theorem odds_length {α : Type} : ∀ (l : List α), 2 * (odds l).length ≤ l.length
  | [] => by simp [odds]
  | [x] => by simp [odds]
  | x :: y :: r => by have := odds_length r; simp only [odds, List.length_cons]; omega
theorem PT.get_ofList {α : Type} : ∀ (n : Nat) (l : List α) (i : Nat), l.length ≤ n → (PT.ofList n l).get i = l[i]?
  | 0, l, i, h => by
    have : l = [] := List.length_eq_zero_iff.1 (by omega)
    subst this; simp [PT.ofList, PT.get_nil]
  | n + 1, [], i, h => by simp [PT.ofList, PT.get_nil]
  | n + 1, x :: r, i, h => by
    have h1 := odds_length (x :: r)
    have h2 := odds_length r
    simp only [List.length_cons] at h h1
    simp only [PT.ofList]
    rw [PT.get_node]
    by_cases h0 : i = 0
    · subst h0; simp
    · rw [if_neg h0]
      by_cases hi : i % 2 = 1
      · rw [if_pos hi, PT.get_ofList n _ _ (by omega), odds_get]
        congr 1
        omega
      · rw [if_neg hi, PT.get_ofList n _ _ (by omega), odds_get]
        obtain ⟨k, rfl⟩ : ∃ k, i = k + 1 := ⟨i - 1, by omega⟩
        rw [List.getElem?_cons_succ]
        congr 1
        omega
def enterable (g : Func) : Option Func := cond (g.body.isSome && !(g.name == "runtime.NumGoroutine")) (some g) none
noncomputable def tabOf (P : Program) (N M : Nat) (ext : FuncId → Option (Array Value → Sem Value)) (plain : TypeId → Bool) : Tab where
  info := (PT.ofList N P.types.toList).get
  fn f := ((PT.ofList M P.funcs.toList).get f).bind enterable
  ext := ext
  plain := plain
theorem tabOk_of {P : Program} {N M : Nat} {ext : FuncId → Option (Array Value → Sem Value)} {plain : TypeId → Bool} (h1 : Nat.ble P.types.size N = true) (h2 : Nat.ble P.funcs.size M = true) (h3 : P.follows .mixedOrders = true)
    (hx : ∀ f s, ext f = some s → ∀ args w, (callFunc f args).run P w = ((s args).run P w).andThen fun v w => .ok (.value v) w)
    (hp : ∀ t, plain t = true → P.eqGuardType P.depth t = false ∧ P.stoodInHeld t = false) : TabOk P (tabOf P N M ext plain) where
  info := fun t i hi => by
    have hi : (PT.ofList N P.types.toList).get t = some i := hi
    rw [PT.get_ofList _ _ _ (by have := (nble _ _).1 h1; simpa using this)] at hi
    have hi : P.types[t]? = some i := by simpa using hi
    have hlt : t < P.types.size := (Array.getElem?_eq_some_iff.1 hi).1
    show P.toTables.info? t = some i
    unfold Tables.info?
    rw [if_pos hlt]
    exact hi
  fn := fun f g hg => by
    obtain ⟨g', hg', h4⟩ := obind (show ((PT.ofList M P.funcs.toList).get f).bind enterable = some g from hg)
    rw [PT.get_ofList _ _ _ (by have := (nble _ _).1 h2; simpa using this)] at hg'
    obtain ⟨h5, h6⟩ := ocond (show cond _ (some g') none = some g from h4)
    cases h6
    rw [Bool.and_eq_true] at h5
    have hf : P.funcs[f]? = some g := by simpa using hg'
    have hn : (g.name == "runtime.NumGoroutine") = false := by simpa using h5.2
    have hb : g.body.isNone = false := by cases hq : g.body <;> simp_all
    refine ⟨hf, fun args w => ?_⟩
    simp [callFunc, hf, hb]
    rw [if_neg (by simpa using hn)]
    rw [if_neg (by intro hh; rw [hh] at hb; cases hb)]
  ext := hx
  plain := hp
  follows := h3
end Go.Cx
set_option linter.unusedSimpArgs false
set_option linter.unusedVariables false
namespace Go.Cx
open Go.RowKit (Below)
noncomputable def tt (p : Prop) : Bool := @decide p (Classical.propDecidable p)
theorem tt_iff {p : Prop} : tt p = true ↔ p := by unfold tt; exact @decide_eq_true_iff p (Classical.propDecidable p)
structure Cxt where
  P : Program
  T : Tab
  B0 : Nat
  w0 : World
  ok : TabOk P T
abbrev KP := CEx → CAct → CH → Prop
inductive kthenP (next : CAct → CH → Prop) (Q : KP) : KP
  | n {a : CAct} {h : CH} (hn : next a h) : kthenP next Q .normal a h
  | r {a : CAct} {h : CH} (hn : Q .ret a h) : kthenP next Q .ret a h
  | e {id : Nat} {a : CAct} {h : CH} (hn : Q (.exit id) a h) : kthenP next Q (.exit id) a h
  | p {ch : List PanicEntry} {a : CAct} {h : CH} (hn : Q (.panic ch) a h) : kthenP next Q (.panic ch) a h
inductive kblockP (id : Nat) (Q : KP) : KP
  | n {a : CAct} {h : CH} (hn : Q .normal a h) : kblockP id Q .normal a h
  | r {a : CAct} {h : CH} (hn : Q .ret a h) : kblockP id Q .ret a h
  | e {a : CAct} {h : CH} (hn : Q .normal a h) : kblockP id Q (.exit id) a h
  | o {id' : Nat} {a : CAct} {h : CH} (hne : Nat.beq id' id = false) (hn : Q (.exit id') a h) : kblockP id Q (.exit id') a h
  | p {ch : List PanicEntry} {a : CAct} {h : CH} (hn : Q (.panic ch) a h) : kblockP id Q (.panic ch) a h
def CalF (X : Cxt) (f : FuncId) (args : List Value) (h : CH) (Q : CRes → CH → Prop) : Prop :=
  ∀ e w, R X.B0 X.w0 e h w → ∀ args' : Array Value, VL e args args'.toList → ∀ cs,
    ∃ res h' e' w' fr en, Q res h' ∧ Ext e e' ∧ R X.B0 X.w0 e' h' w' ∧ ResR e' res en ∧ Steps X.P (lone (Frame.enter X.P f args' .normal) cs w) (lone fr cs w') ∧ fr.fn = f ∧ fr.leaving X.P w' en
def CalD (X : Cxt) (f : FuncId) (args : List Value) (m : FrameMode) (h : CH) (Q : CRes → FrameMode → CH → Prop) : Prop :=
  ∀ e w, R X.B0 X.w0 e h w → ∀ args' : Array Value, VL e args args'.toList → ∀ (c : Frame) cs, MR e m c.mode →
    ∃ res m1 h' e' w' fr en m1', Q res m1 h' ∧ Ext e e' ∧ R X.B0 X.w0 e' h' w' ∧ ResR e' res en ∧ MR e' m1 m1' ∧ Steps X.P (lone (Frame.enter X.P f args' .deferred) (c :: cs) w) (lone fr ({ c with mode := m1' } :: cs) w') ∧ fr.kind = .deferred ∧ fr.going X.P w' en
def Rnd (X : Cxt) (l f n : Nat) (tm : PT Value) (as_ bd : Code) (h : CH) (Q : Value → CH → Prop) : Prop :=
  ∀ e w, R X.B0 X.w0 e h w → ∀ l' x tmps', e l = some (l', x) → TR e n tm tmps' → ∀ (c : Frame) cs,
    ∃ v h' e' w' v', Q v h' ∧ Ext e e' ∧ R X.B0 X.w0 e' h' w' ∧ VR e' v v' ∧ Steps X.P (lone (Frame.round l' f tmps' as_ bd .normal) (c :: cs) w) (lone (c.finish v') cs w')
noncomputable def cfS (X : Cxt) : Callf := fun t rc h K =>
  match t with
  | .fn f args => match rc with
    | none => tt (CalF X f args h fun r h => K r none h = true)
    | some m => tt (CalD X f args m h fun r m h => K r (some m) h = true)
  | .round l f n tm as_ bd => match rc with
    | none => tt (Rnd X l f n tm as_ bd h fun v h => K (.ret v) none h = true)
    | some _ => false
theorem cfS_ok (X : Cxt) : CallOk X.P X.B0 X.w0 (cfS X) :=
  ⟨fun f args h K hc => tt_iff.1 hc, fun f args m h K hc => tt_iff.1 hc, fun l f n tm as_ bd h K hc => tt_iff.1 hc⟩
theorem CalF.mono {X : Cxt} {f : FuncId} {args : List Value} {h : CH} {Q Q' : CRes → CH → Prop} (hf : CalF X f args h Q) (hq : ∀ r h, Q r h → Q' r h) : CalF X f args h Q' := by
  intro e w hR args' ha cs
  obtain ⟨res, h', e', w', fr, en, k1, k2⟩ := hf e w hR args' ha cs
  exact ⟨res, h', e', w', fr, en, hq _ _ k1, k2⟩
def Runs (X : Cxt) (fid : FuncId) (rnd : Bool) (c : Code) (a : CAct) (h : CH) (Q : KP) : Prop :=
  ∀ (e : Env) (w : World) (ra : Act) (b : Frame) (k : List Item) (cs0 cs : List Frame), R X.B0 X.w0 e h w → AR e a ra → RC e a.rc cs0 cs → FOk b fid rnd a.rc.isSome →
    Goes X.P X.B0 X.w0 e (lone (b.atR ra (.code c :: k)) cs w) b k cs0 a.rc.isSome (fun ex a h => tt (Q ex a h))
theorem Goes.mono {P : Program} {B0 : Nat} {w0 : World} {e : Env} {m : Machine} {b : Frame} {k : List Item} {cs0 : List Frame} {rcs : Bool} {K K' : Kcode} (hg : Goes P B0 w0 e m b k cs0 rcs K) (hk : ∀ ex a h, K ex a h = true → K' ex a h = true) : Goes P B0 w0 e m b k cs0 rcs K' := by
  obtain ⟨ex, a, h, e', w, ra, cs, h1, h2⟩ := hg
  exact ⟨ex, a, h, e', w, ra, cs, hk _ _ _ h1, h2⟩
theorem Runs.mono {X : Cxt} {fid : FuncId} {rnd : Bool} {c : Code} {a : CAct} {h : CH} {Q Q' : KP} (hr : Runs X fid rnd c a h Q) (hq : ∀ ex a h, Q ex a h → Q' ex a h) : Runs X fid rnd c a h Q' :=
  fun e w ra b k cs0 cs h1 h2 h3 h4 => (hr e w ra b k cs0 cs h1 h2 h3 h4).mono fun ex a h hh => tt_iff.2 (hq ex a h (tt_iff.1 hh))
def Loops (X : Cxt) (fid : FuncId) (rnd : Bool) (c : Code) (a : CAct) (h : CH) (Q : KP) : Prop :=
  ∀ (e : Env) (w : World) (ra : Act) (b : Frame) (k : List Item) (cs0 cs : List Frame), R X.B0 X.w0 e h w → AR e a ra → RC e a.rc cs0 cs → FOk b fid rnd a.rc.isSome →
    Goes X.P X.B0 X.w0 e (lone (b.atR ra (.code c :: .inLoop c :: k)) cs w) b k cs0 a.rc.isSome (fun ex a h => tt (Q ex a h))
theorem Loops.mono {X : Cxt} {fid : FuncId} {rnd : Bool} {c : Code} {a : CAct} {h : CH} {Q Q' : KP} (hr : Loops X fid rnd c a h Q) (hq : ∀ ex a h, Q ex a h → Q' ex a h) : Loops X fid rnd c a h Q' :=
  fun e w ra b k cs0 cs h1 h2 h3 h4 => (hr e w ra b k cs0 cs h1 h2 h3 h4).mono fun ex a h hh => tt_iff.2 (hq ex a h (tt_iff.1 hh))
def pout (X : Cxt) (rnd : Bool) (d : Option Tmp) (a : CAct) (h : CH) (Q : KP) (r : COut) : Prop :=
  match r with
  | .val v h => Q .normal (a.put d v) h
  | .call (.fn f args) => CalF X f args h fun r h => match r with
    | .ret v => Q .normal (a.put d v) h
    | .panic ch => Q (.panic ch) a h
  | .call (.round l f n tm as_ bd) => Rnd X l f n tm as_ bd h fun v h => Q .normal (a.put d v) h
  | .defer x => rnd = false ∧ Q .normal { a.put d undefV with defers := x :: a.defers } h
  | .recover => c1rec rnd d a h (fun ex a h => tt (Q ex a h)) = true
  | .panic v => Q (.panic [{ v, recovered := false }]) a h
  | .bad => False
def p1 (X : Cxt) (rnd : Bool) (ops : List Oper) (o : Oper) (a : CAct) (h : CH) (Q : KP) : Prop :=
  match cwant ops a.tm o with
  | none => False
  | some false => Q .normal (a.put o.dst undefV) h
  | some true => pout X rnd o.dst a h Q (cop X.T a.tm h o)
def popsF (X : Cxt) (rnd : Bool) (ops : List Oper) : List Oper → CAct → CH → KP → Prop
  | [], a, h, Q => Q .normal a h
  | o :: l, a, h, Q => p1 X rnd ops o a h (kthenP (fun a h => popsF X rnd ops l a h Q) Q)
theorem pout_out {X : Cxt} {rnd : Bool} {d : Option Tmp} {a : CAct} {h : CH} {Q : KP} {K : Kcode} (hk : ∀ ex a h, Q ex a h → K ex a h = true) {r : COut} (hp : pout X rnd d a h Q r) : c1out (cfS X) rnd d a h K r = true := by
  unfold pout at hp
  split at hp
  · exact hk _ _ _ hp
  · exact tt_iff.2 (hp.mono fun r h hh => by cases r <;> exact hk _ _ _ hh)
  · refine tt_iff.2 ?_
    intro e w h1 l' x tmps' h2 h3 c cs
    obtain ⟨v, h', e', w', v', k1, k2⟩ := hp e w h1 l' x tmps' h2 h3 c cs
    exact ⟨v, h', e', w', v', hk _ _ _ k1, k2⟩
  · obtain ⟨rfl, h1⟩ := hp; exact hk _ _ _ h1
  · unfold c1out c1rec at *
    cases rnd with
    | true => cases hp
    | false =>
      simp only [cond_false] at hp ⊢
      split at hp
      · rename_i m hm
        split at hp
        · rename_i p hp'
          exact hk _ _ _ (tt_iff.1 hp)
        · rename_i hp'
          exact hk _ _ _ (tt_iff.1 hp)
      · cases hp
  · exact hk _ _ _ hp
  · exact hp.elim
theorem p1_c1 {X : Cxt} {rnd : Bool} {ops : List Oper} {o : Oper} {a : CAct} {h : CH} {Q : KP} {K : Kcode} (hk : ∀ ex a h, Q ex a h → K ex a h = true) (hp : p1 X rnd ops o a h Q) : c1 X.T (cfS X) rnd ops o a h K = true := by
  unfold p1 at hp
  unfold c1
  split at hp
  · exact hp.elim
  · rename_i hw; rw [hw]; exact hk _ _ _ hp
  · rename_i hw; rw [hw]; exact pout_out hk hp
theorem pops_cops {X : Cxt} {rnd : Bool} {ops : List Oper} : ∀ {l : List Oper} {a : CAct} {h : CH} {Q : KP} {K : Kcode}, (∀ ex a h, Q ex a h → K ex a h = true) → popsF X rnd ops l a h Q → cops X.T (cfS X) rnd ops l a h K = true
  | [], a, h, Q, K, hk, hp => hk _ _ _ hp
  | o :: l, a, h, Q, K, hk, hp => by
    show c1 X.T (cfS X) rnd ops o a h (kthen (fun a h => cops X.T (cfS X) rnd ops l a h K) K) = true
    refine p1_c1 (fun ex a h hh => ?_) hp
    cases hh with
    | n hn => exact pops_cops hk hn
    | r hn => exact hk _ _ _ hn
    | e hn => exact hk _ _ _ hn
    | p hn => exact hk _ _ _ hn
inductive pops (X : Cxt) (rnd : Bool) (ops l : List Oper) (a : CAct) (h : CH) (Q : KP) : Prop
  | mk (out : popsF X rnd ops l a h Q)
theorem pops.out {X : Cxt} {rnd : Bool} {ops l : List Oper} {a : CAct} {h : CH} {Q : KP} : pops X rnd ops l a h Q → popsF X rnd ops l a h Q
  | .mk h => h
inductive pcond (c : Option Value) (x y : Prop) : Prop
  | t (hc : c = some (.bool true)) (hx : x) : pcond c x y
  | f (hc : c = some (.bool false)) (hy : y) : pcond c x y
noncomputable def pcode (X : Cxt) (fid : FuncId) (rnd : Bool) : Code → CAct → CH → KP → Prop
  | .skip, a, h, Q => Q .normal a h
  | .label _, a, h, Q => Q .normal a h
  | .seq x y, a, h, Q => pcode X fid rnd x a h (kthenP (fun a h => pcode X fid rnd y a h Q) Q)
  | .cond c x y, a, h, Q => pcond (ev a.tm c) (pcode X fid rnd x a h Q) (pcode X fid rnd y a h Q)
  | .block id c, a, h, Q => pcode X fid rnd c a h (kblockP id Q)
  | .loop c, a, h, Q => Loops X fid rnd c a h Q
  | .scope c, a, h, Q => pcode X fid rnd c a h Q
  | .exit id, a, h, Q => Q (.exit id) a h
  | .ret, a, h, Q => Q .ret a h
  | .region id ops d, a, h, Q => match d with
    | false => popsF X rnd ops.toList ops.toList a h Q
    | true => Runs X fid rnd (.region id ops true) a h Q
  | .rangeFunc f ps assign body, a, h, Q => rnd = false ∧ match ev a.tm f with
    | some g => crf X.T (cfS X) fid ps assign body g a h (fun ex a h => tt (Q ex a h)) = true
    | none => False
  | .goto _, _, _, _ => False
  | .refuse _, _, _, _ => False
theorem Goes.thenP {X : Cxt} {e : Env} {m : Machine} {b : Frame} {x : Item} {k : List Item} {cs0 : List Frame} {rcs : Bool} {next : CAct → CH → Prop} {Q : KP} (hx : pass x = true)
    (hg : Goes X.P X.B0 X.w0 e m b (x :: k) cs0 rcs (fun ex a h => tt (kthenP next Q ex a h)))
    (hn : ∀ a h e' w ra cs, next a h → Ext e e' → R X.B0 X.w0 e' h w → AR e' a ra → RC e' a.rc cs0 cs → a.rc.isSome = rcs → Goes X.P X.B0 X.w0 e' (lone (b.atR ra (x :: k)) cs w) b k cs0 rcs (fun ex a h => tt (Q ex a h))) :
    Goes X.P X.B0 X.w0 e m b k cs0 rcs (fun ex a h => tt (Q ex a h)) := by
  refine Goes.bind (next := fun a h => tt (next a h)) hx (hg.mono fun ex a h hh => ?_) fun a h e' w ra cs h1 => hn a h e' w ra cs (tt_iff.1 h1)
  cases tt_iff.1 hh with
  | n hn => exact tt_iff.2 hn
  | r hn => exact tt_iff.2 hn
  | e hn => exact tt_iff.2 hn
  | p hn => exact tt_iff.2 hn
theorem Runs.of {X : Cxt} {fid : FuncId} {rnd : Bool} : ∀ (c : Code) {a : CAct} {h : CH} {Q : KP}, pcode X fid rnd c a h Q → Runs X fid rnd c a h Q
  | .skip, a, h, Q, hp => fun e w ra b k cs0 cs hR ha hrc hb => ⟨.normal, a, h, e, w, ra, cs, tt_iff.2 hp, Ext.refl e, hR, ha, hrc, rfl, .one stepR_skip⟩
  | .label _, a, h, Q, hp => fun e w ra b k cs0 cs hR ha hrc hb => ⟨.normal, a, h, e, w, ra, cs, tt_iff.2 hp, Ext.refl e, hR, ha, hrc, rfl, .one stepR_label⟩
  | .seq x y, a, h, Q, hp => fun e w ra b k cs0 cs hR ha hrc hb => by
    have hp : pcode X fid rnd x a h (kthenP (fun a h => pcode X fid rnd y a h Q) Q) := hp
    refine Goes.of_steps (.one stepR_seq) ((Runs.of x hp e w ra b (.code y :: k) cs0 cs hR ha hrc hb).thenP rfl fun a1 h1 e1 w1 ra1 cs1 g1 g2 g3 g4 g5 g6 => ?_)
    have := Runs.of y g1 e1 w1 ra1 b k cs0 cs1 g3 g4 g5 (by rw [g6]; exact hb)
    rw [g6] at this
    exact this
  | .cond c x y, a, h, Q, hp => fun e w ra b k cs0 cs hR ha hrc hb => by
    have hp : pcond (ev a.tm c) (pcode X fid rnd x a h Q) (pcode X fid rnd y a h Q) := hp
    rcases hp with ⟨hc, hx⟩ | ⟨hc, hy⟩
    · exact Goes.of_steps (.one (stepR_cond (ev_sound ha.tm hc).bool)) (Runs.of x hx e w ra b k cs0 cs hR ha hrc hb)
    · exact Goes.of_steps (.one (stepR_cond (ev_sound ha.tm hc).bool)) (Runs.of y hy e w ra b k cs0 cs hR ha hrc hb)
  | .block id c, a, h, Q, hp => fun e w ra b k cs0 cs hR ha hrc hb => by
    have hp : pcode X fid rnd c a h (kblockP id Q) := hp
    refine Goes.of_steps (.one stepR_block) (((Runs.of c hp e w ra b (.inBlock id :: k) cs0 cs hR ha hrc hb).mono fun ex a h hh => ?_).block)
    cases tt_iff.1 hh with
    | n hn => exact tt_iff.2 hn
    | r hn => exact tt_iff.2 hn
    | e hn => show cond (Nat.beq id id) _ _ = true; rw [Nat.beq_refl]; exact tt_iff.2 hn
    | o hne hn => show cond (Nat.beq _ id) _ _ = true; rw [hne]; exact tt_iff.2 hn
    | p hn => exact tt_iff.2 hn
  | .loop c, a, h, Q, hp => fun e w ra b k cs0 cs hR ha hrc hb => Goes.of_steps (.one stepR_loop) ((show Loops X fid rnd c a h Q from hp) e w ra b k cs0 cs hR ha hrc hb)
  | .scope c, a, h, Q, hp => fun e w ra b k cs0 cs hR ha hrc hb => by
    have hp : pcode X fid rnd c a h Q := hp
    have := Runs.of c hp e w ra b (.inScope c :: k) cs0 cs hR ha hrc hb
    refine Goes.of_steps (.one stepR_scope) ?_
    obtain ⟨ex, a, h, e', w, ra, cs, h1, h2, h3, h4, h5, h6, h7⟩ := this
    cases ex with
    | normal => exact ⟨.normal, a, h, e', w, ra, cs, h1, h2, h3, h4, h5, h6, Steps.trans h7 (.one stepR_inScope)⟩
    | exit id => obtain ⟨k', g1, g2⟩ := h7; exact ⟨.exit id, a, h, e', w, ra, cs, h1, h2, h3, h4, h5, h6, k', g1, g2⟩
    | ret => exact ⟨.ret, a, h, e', w, ra, cs, h1, h2, h3, h4, h5, h6, h7⟩
    | panic ch => exact ⟨.panic ch, a, h, e', w, ra, cs, h1, h2, h3, h4, h5, h6, h7⟩
  | .exit id, a, h, Q, hp => fun e w ra b k cs0 cs hR ha hrc hb => ⟨.exit id, a, h, e, w, ra, cs, tt_iff.2 hp, Ext.refl e, hR, ha, hrc, rfl, k, rfl, .refl X.P _⟩
  | .ret, a, h, Q, hp => fun e w ra b k cs0 cs hR ha hrc hb => ⟨.ret, a, h, e, w, ra, cs, tt_iff.2 hp, Ext.refl e, hR, ha, hrc, rfl, k, .refl X.P _⟩
  | .region id ops d, a, h, Q, hp => fun e w ra b k cs0 cs hR ha hrc hb => by
    cases d with
    | false =>
      have hp : popsF X rnd ops.toList ops.toList a h Q := hp
      exact cregion_sound X.ok (cfS_ok X) (pops_cops (fun ex a h hh => tt_iff.2 hh) hp) hR ha hrc hb
    | true => exact (show Runs X fid rnd (.region id ops true) a h Q from hp) e w ra b k cs0 cs hR ha hrc hb
  | .rangeFunc f ps assign body, a, h, Q, hp => fun e w ra b k cs0 cs hR ha hrc hb => by
    obtain ⟨rfl, h1⟩ := (show rnd = false ∧ match ev a.tm f with
      | some g => crf X.T (cfS X) fid ps assign body g a h (fun ex a h => tt (Q ex a h)) = true
      | none => False from hp)
    split at h1
    · rename_i g hg; exact crf_sound X.ok (cfS_ok X) hg h1 hR ha hrc hb
    · exact h1.elim
  | .goto _, _, _, _, hp => hp.elim
  | .refuse _, _, _, _, hp => hp.elim
theorem Loops.round {X : Cxt} {fid : FuncId} {rnd : Bool} {c : Code} {a : CAct} {h : CH} {Q : KP} (hp : Runs X fid rnd c a h (kthenP (fun a h => Loops X fid rnd c a h Q) Q)) : Loops X fid rnd c a h Q := by
  intro e w ra b k cs0 cs hR ha hrc hb
  refine (hp e w ra b (.inLoop c :: k) cs0 cs hR ha hrc hb).thenP rfl fun a1 h1 e1 w1 ra1 cs1 g1 g2 g3 g4 g5 g6 => ?_
  have := g1 e1 w1 ra1 b k cs0 cs1 g3 g4 g5 (by rw [g6]; exact hb)
  rw [g6] at this
  exact Goes.of_steps (.one stepR_inLoop) this
def pleave (X : Cxt) (fn : Func) (Q : CRes → CH → Prop) : KP := fun ex a h =>
  kleave X.T (cfS X) fn (fun r _ h => tt (Q r h)) ex a h = true
theorem CalF.intro {X : Cxt} {f : FuncId} {fn : Func} {c : Code} {args : List Value} {h : CH} {Q : CRes → CH → Prop} (hfn : X.T.fn f = some fn) (hb : fn.body = some c) (hlen : args.length ≤ fn.ntmps)
    (hc : Runs X f false c { n := fn.ntmps, tm := argsTree args 0 .nil, defers := [], rc := none } h (pleave X fn Q)) : CalF X f args h Q := by
  intro e w hR args' ha cs0
  let b : Frame := { (default : Frame) with fn := f, kind := .normal }
  have hpf := (X.ok.fn _ _ hfn).1
  have henter : Frame.enter X.P f args' .normal = b.atR { tmps := args' ++ Array.replicate (fn.ntmps - args'.size) undef, defers := [] } [.code c] := by
    simp [Frame.enter, Frame.atR, hpf, hb, b]
    rfl
  rw [henter]
  obtain ⟨ex, a, h', e', w', ra, cs, h1, h2, h3, h4, h5, h6, h7⟩ := hc e w { tmps := args' ++ Array.replicate (fn.ntmps - args'.size) undef, defers := [] } b [] cs0 cs0 hR ⟨TR.args ha hlen, .nil⟩ rfl ⟨rfl, fun _ => rfl, fun hh => by cases hh⟩
  have hrc : a.rc = none := by
    cases har : a.rc with
    | none => rfl
    | some m => rw [har] at h6; cases h6
  rw [hrc] at h5
  have h5 : cs = cs0 := h5
  subst h5
  have h1 := tt_iff.1 h1
  have key : ∀ (m : FrameMode) (fr : Frame), cleave X.T (cfS X) fn a.tm a.rc a.defers m h' (fun r _ h => tt (Q r h)) = true → MR e' m fr.mode → fr.tmps = ra.tmps → fr.defers = ra.defers → fr.fn = f → fr.kind = .normal → Steps X.P (lone (b.atR { tmps := args' ++ Array.replicate (fn.ntmps - args'.size) undef, defers := [] } [.code c]) cs w) (lone fr cs w') →
      ∃ res h' e' w' fr en, Q res h' ∧ Ext e e' ∧ R X.B0 X.w0 e' h' w' ∧ ResR e' res en ∧ Steps X.P (lone (b.atR { tmps := args' ++ Array.replicate (fn.ntmps - args'.size) undef, defers := [] } [.code c]) cs w) (lone fr cs w') ∧ fr.fn = f ∧ fr.leaving X.P w' en := by
    intro m fr hcl hm ht hd hfn' hk' hst
    obtain ⟨res, h2', e2, w2, fr2, en, j1, j2, j3, j4, j5, j6, j7, j8⟩ := cleave_sound X.ok (cfS_ok X) (n := a.n) a.defers m h' _ hcl e' w' fr cs h3 hm (hd ▸ h4.df) (ht ▸ h4.tm) (by rw [hfn']; exact hpf)
    refine ⟨res, h2', e2, w2, fr2, en, tt_iff.1 j1, h2.trans j2, j3, j4, hst.trans j5, j6.trans hfn', ?_⟩
    cases en with
    | returned v => exact ⟨j8.1, j8.2.1, j7.trans hk', j8.2.2⟩
    | panicked ch => exact j8
    | outgrown => trivial
  cases ex with
  | normal => exact key .returning { b.atR ra [] with mode := .returning } h1 .ret rfl rfl rfl rfl (Steps.trans h7 (.one (stepR_end rfl)))
  | ret =>
    obtain ⟨k', g1⟩ := h7
    exact key .returning { b.atR ra (.code .ret :: k') with mode := .returning } h1 .ret rfl rfl rfl rfl (Steps.trans g1 (.one (stepR_ret rfl)))
  | panic chain =>
    obtain ⟨chain', todo, g1, g2⟩ := h7
    exact key (.panicking chain) { b.atR ra todo with mode := .panicking chain' } h1 (.pan g1) rfl rfl rfl rfl g2
  | exit id => cases h1
end Go.Cx