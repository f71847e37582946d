/- A region that draws its order and whose memory steps are in no one row: a predicate over the steps that have been, in their order, serves. -/
import Derived.Test.YtipecejghioicaaBaser
-- from B3r
namespace Go.Silo
open Go

def upd (D : Nat → Bool) (i : Nat) : Nat → Bool := fun k => if k = i then true else D k
theorem upd_self (D : Nat → Bool) (i : Nat) : upd D i i = true := by simp [upd]
theorem upd_other (D : Nat → Bool) {i k : Nat} (h : k ≠ i) : upd D i k = D k := by simp [upd, h]

/-- Operation i, whenever it may come up, carries the invariant on. -/
def StepInv (P : Program) (ops : Array Oper) (Q : Exit → Act → World → Prop) (I : (Nat → Bool) → Act → World → Prop) (i : Nat) (o : Oper) : Prop :=
  ∀ D a w, I D a w → D i = false → (∀ e ∈ o.after, Region.binds .any e = true → D e.on = true) →
    ∀ K : Act → World → Prop, (∀ a w, I (upd D i) a w → K a w) → if Region.wanted o (yielded ops a.tmps) = true then Oper.wp P o a w K Q else K (a.put o.dst undef) w
def StepsInv (P : Program) (ops : Array Oper) (Q : Exit → Act → World → Prop) (I : (Nat → Bool) → Act → World → Prop) : Nat → List Oper → Prop
  | _, [] => True
  | i, o :: l => StepInv P ops Q I i o ∧ StepsInv P ops Q I (i + 1) l
theorem StepsInv.get {P : Program} {ops : Array Oper} {Q : Exit → Act → World → Prop} {I : (Nat → Bool) → Act → World → Prop} : ∀ {l : List Oper} {j i : Nat} {o : Oper}, StepsInv P ops Q I j l → l[i]? = some o → StepInv P ops Q I (j + i) o
  | [], _, _, _, _, h => by simp at h
  | o :: l, j, 0, _, hs, h => by simp at h; subst h; exact hs.1
  | o :: l, j, i + 1, _, hs, h => by
    have := StepsInv.get (i := i) hs.2 (by simpa using h)
    rw [show j + (i + 1) = j + 1 + i by omega]; exact this

theorem countF_set {l : List Bool} {i : Nat} (h : l[i]? = some false) : (l.set i true).countP (fun b => !b) + 1 = l.countP (fun b => !b) := by
  induction l generalizing i with
  | nil => simp at h
  | cons b l ih =>
    cases i with
    | zero => simp at h; subst h; simp
    | succ i =>
      have := ih (i := i) (by simpa using h)
      rw [List.set_cons_succ, List.countP_cons, List.countP_cons]
      omega

theorem wpAny_inv {P : Program} {ops : Array Oper} {Q : Exit → Act → World → Prop} {I : (Nat → Bool) → Act → World → Prop}
    (hac : ∀ (i : Nat) (o : Oper), ops[i]? = some o → ∀ e ∈ o.after, Region.binds .any e = true → e.on < i) (hs : ∀ (i : Nat) (o : Oper), ops[i]? = some o → StepInv P ops Q I i o)
    (hend : ∀ D a w, I D a w → (∀ i, i < ops.size → D i = true) → Q .normal a w) :
    ∀ (fuel : Nat) (L : Array Bool) (a : Act) (w : World), L.size = ops.size → L.toList.countP (fun b => !b) ≤ fuel → I (fun k => L.getD k false) a w → wpAny P .any ops Q fuel L a w := by
  have stuck : ∀ L : Array Bool, L.size = ops.size → Region.ready .any ops L = [] → ∀ i, i < ops.size → L.getD i false = true := by
    intro L hL hr i
    induction i using Nat.strongRecOn with
    | _ i ih =>
      intro hi
      cases hb : L.getD i false with
      | true => rfl
      | false =>
        exfalso
        have hlt : i < L.size := by omega
        have hbt : L.getD i true = false := by
          simp [Array.getElem?_eq_getElem hlt] at hb ⊢
          exact hb
        have ho : ops[i]? = some ops[i] := Array.getElem?_eq_getElem hi
        have : i ∈ Region.ready .any ops L := mem_ready.2 ⟨hbt, _, ho, fun e he hb => ih e.on (hac i _ ho e he hb) (Nat.lt_trans (hac i _ ho e he hb) hi)⟩
        rw [hr] at this
        cases this
  intro fuel
  induction fuel with
  | zero =>
    intro L a w hL hc hI
    have hall : ∀ i, i < ops.size → L.getD i false = true := by
      intro i hi
      have hlt : i < L.size := by omega
      have h0 : L.toList.countP (fun b => !b) = 0 := by omega
      rw [List.countP_eq_zero] at h0
      have := h0 L[i] (by simp)
      simp at this
      simp [Array.getElem?_eq_getElem hlt, this]
    refine ⟨?_, hend _ a w hI hall⟩
    cases hr : Region.ready .any ops L with
    | nil => rfl
    | cons i r =>
      exfalso
      have hm : i ∈ Region.ready .any ops L := by rw [hr]; simp
      obtain ⟨h1, o, ho, _⟩ := mem_ready.1 hm
      have hi : i < ops.size := (Array.getElem?_eq_some_iff.1 ho).1
      have h2 := hall i hi
      have hlt : i < L.size := by omega
      simp [Array.getElem?_eq_getElem hlt] at h1 h2
      rw [h1] at h2; cases h2
  | succ fuel ih =>
    intro L a w hL hc hI
    refine ⟨fun hr => hend _ a w hI (stuck L hL hr), fun i hm => ?_⟩
    obtain ⟨h1, o, ho, hdep⟩ := mem_ready.1 hm
    have hi : i < ops.size := (Array.getElem?_eq_some_iff.1 ho).1
    have hlt : i < L.size := by omega
    have hLi : L[i] = false := by simpa [Array.getElem?_eq_getElem hlt] using h1
    refine wpOp_step ho (fun K' hK => hs i o ho _ a w hI (by simp [Array.getElem?_eq_getElem hlt, hLi]) hdep K' (fun a' w' hI' => hK a' w' (ih _ a' w' (by simpa using hL) ?_ ?_)))
    · have := countF_set (l := L.toList) (i := i) (by simp [Array.getElem?_eq_getElem hlt, hLi])
      rw [Array.toList_setIfInBounds]
      omega
    · have : (fun k => (L.setIfInBounds i true).getD k false) = upd (fun k => L.getD k false) i := by
        funext k
        by_cases hk : k = i
        · subst hk; rw [upd_self]; simp [hlt]
        · rw [upd_other _ hk]; simp [Array.getElem?_setIfInBounds_ne (Ne.symm hk)]
      rw [this]
      exact hI'

def acycB (l : List Oper) : Bool := l.zipIdx.all fun p => p.1.after.all fun e => !Region.binds .any e || decide (e.on < p.2)
theorem region_inv {P : Program} {id : Nat} {Q : Exit → Act → World → Prop} {a : Act} {w : World} {l : List Oper} (hm : P.follows .mixedOrders = true) (hac : acycB l = true)
    (I : (Nat → Bool) → Act → World → Prop) (h0 : I (fun _ => false) a w.drew) (hs : StepsInv P l.toArray Q I 0 l) (hend : ∀ D a w, I D a w → (∀ i, i < l.length → D i = true) → Q .normal a w) :
    (Code.region id l.toArray true).wp P Q a w := by
  refine wp_region_any hm (wpAny_inv ?_ ?_ (fun D a w hI h => hend D a w hI (by simpa using h)) _ _ a w.drew (by simp) ?_ ?_)
  · intro i o ho e he hb
    unfold acycB at hac
    rw [List.all_eq_true] at hac
    have h1 := hac (o, i) (List.mem_zipIdx_iff_getElem?.2 (by simpa using ho))
    have h2 := Array.all_eq_true_iff_forall_mem.1 h1 e he
    simpa [hb] using h2
  · intro i o ho
    have := hs.get (i := i) (by simpa using ho)
    simpa using this
  · have : (Array.replicate l.toArray.size false).toList.countP (fun b => !b) ≤ (Array.replicate l.toArray.size false).toList.length := List.countP_le_length
    simpa using this
  · have : (fun k => (Array.replicate l.toArray.size false).getD k false) = fun _ => false := by
      funext k
      rcases Nat.lt_or_ge k l.toArray.size with h | h
      · simp [Array.getElem?_replicate]; split <;> rfl
      · simp [Array.getElem?_replicate]; split <;> rfl
    rw [this]; exact h0

/-! ### Operations that make or write memory stand in one row; all others read, and read the same whenever they come up -/

/-- A frame, whose slots 'ds' hold what v says. -/
def over (a : Act) (ds : List Nat) (v : Nat → Value) : Act := ⟨(a.tmps.toList.zipIdx.map (fun p => if ds.contains p.2 then v p.2 else p.1)).toArray, a.defers⟩
theorem over_get (a : Act) (ds : List Nat) (v : Nat → Value) (t : Nat) : (over a ds v).tmps[t]? = (a.tmps[t]?).map (fun u => if ds.contains t then v t else u) := by
  simp only [over, List.getElem?_toArray, List.getElem?_map, List.getElem?_zipIdx, Array.getElem?_toList, Option.map_map]
  cases a.tmps[t]? with
  | none => rfl
  | some u => simp
theorem over_size (a : Act) (ds : List Nat) (v : Nat → Value) : (over a ds v).tmps.size = a.tmps.size := by simp [over]
theorem act_ext {a b : Act} (h : ∀ t : Nat, a.tmps[t]? = b.tmps[t]?) (hd : a.defers = b.defers) : a = b := by
  obtain ⟨x, d⟩ := a
  obtain ⟨y, e⟩ := b
  simp only at h hd
  rw [hd, Array.ext_getElem? h]
theorem over_put (a : Act) (ds : List Nat) (v : Nat → Value) (d : Nat) (x : Value) (h : ds.contains d = true) : (over a ds v).put (some d) x = over a ds (fun t => if t = d then x else v t) := by
  refine act_ext (fun t => ?_) rfl
  rw [over_get]
  show ((over a ds v).tmps.setIfInBounds d x)[t]? = _
  by_cases ht : t = d
  · subst ht
    simp only [h, if_true]
    rw [Array.getElem?_setIfInBounds_self, over_size]
    by_cases hs : t < a.tmps.size
    · rw [if_pos hs, Array.getElem?_eq_getElem hs]; simp
    · rw [if_neg hs, Array.getElem?_eq_none (by omega)]; rfl
  · rw [Array.getElem?_setIfInBounds_ne (Ne.symm ht), over_get]
    simp only [if_neg ht]
theorem over_self (a : Act) (ds : List Nat) : over a ds (fun t => a.eval (.tmp t)) = a := by
  refine act_ext (fun t => ?_) rfl
  rw [over_get]
  cases h : a.tmps[t]? with
  | none => rfl
  | some u => simp [Act.eval, h]
theorem over_eval (a : Act) (ds : List Nat) (v : Nat → Value) (t : Nat) (h : ds.contains t = true) (hs : t < a.tmps.size) : (over a ds v).eval (.tmp t) = v t := by
  show ((over a ds v).tmps.getD t undef) = _
  rw [Array.getD_eq_getD_getElem?, over_get, Array.getElem?_eq_getElem hs]
  simp
  intro hh
  simp at h
  exact absurd h hh
theorem over_eval' (a : Act) (ds : List Nat) (v : Nat → Value) (t : Nat) (h : ds.contains t = false) : (over a ds v).eval (.tmp t) = a.eval (.tmp t) := by
  show ((over a ds v).tmps.getD t undef) = a.tmps.getD t undef
  rw [Array.getD_eq_getD_getElem?, over_get, Array.getD_eq_getD_getElem?]
  simp only [h]
  cases a.tmps[t]? <;> rfl
theorem over_congr (a : Act) (ds : List Nat) (v v' : Nat → Value) (h : ∀ t, ds.contains t = true → v t = v' t) : over a ds v = over a ds v' := by
  refine act_ext (fun t => ?_) rfl
  rw [over_get, over_get]
  cases hc : ds.contains t with
  | false => simp
  | true => simp [h t hc]

/-- What slot t holds: of the row of the operations that turn the memory (number 'pos t'), or always the same. -/
def slotVal (pos : Nat → Option Nat) (fx : Nat → Value) (us : List Value) (t : Nat) : Value := match pos t with | some k => us.getD k undef | none => fx t

/-- What an operation is to bring. -/
def OpOk (P : Program) (ops : Array Oper) (Q : Exit → Act → World → Prop) (a0 : Act) (ds chain : List Nat) (pos : Nat → Option Nat) (fx : Nat → Value) (lim : Nat → Nat) (tl : Nat → List Nat) (Wd : List Value → World → Prop) (i : Nat) (o : Oper) : Prop :=
  match chain.idxOf? i with
  | none => ∀ (ρ : Operand → Value) us w, (∀ t, ds.contains t = false → ρ (.tmp t) = a0.eval (.tmp t)) → (∀ t ∈ tl i, ρ (.tmp t) = slotVal pos fx us t) → (∀ v, ρ (.const v) = v) → us.length ≤ lim i → Wd us w →
      (execOp ρ o).run P w = .ok (.value (fx (o.dst.getD 0))) w
  | some k => ∀ (a : Act) us w, (∀ t, ds.contains t = false → a.eval (.tmp t) = a0.eval (.tmp t)) → (∀ t ∈ tl i, a.eval (.tmp t) = slotVal pos fx us t) → us.length = k → Wd us w →
      ∀ K : Act → World → Prop, (∀ x w', Wd (us ++ [x]) w' → K (a.put o.dst x) w') → if Region.wanted o (yielded ops a.tmps) = true then Oper.wp P o a w K Q else K (a.put o.dst undef) w
def OpsOk (P : Program) (ops : Array Oper) (Q : Exit → Act → World → Prop) (a0 : Act) (ds chain : List Nat) (pos : Nat → Option Nat) (fx : Nat → Value) (lim : Nat → Nat) (tl : Nat → List Nat) (Wd : List Value → World → Prop) : Nat → List Oper → Prop
  | _, [] => True
  | i, o :: l => OpOk P ops Q a0 ds chain pos fx lim tl Wd i o ∧ OpsOk P ops Q a0 ds chain pos fx lim tl Wd (i + 1) l
theorem OpsOk.get {P : Program} {ops : Array Oper} {Q : Exit → Act → World → Prop} {a0 : Act} {ds chain : List Nat} {pos : Nat → Option Nat} {fx : Nat → Value} {lim : Nat → Nat} {tl : Nat → List Nat} {Wd : List Value → World → Prop} :
    ∀ {l : List Oper} {j i : Nat} {o : Oper}, OpsOk P ops Q a0 ds chain pos fx lim tl Wd j l → l[i]? = some o → OpOk P ops Q a0 ds chain pos fx lim tl Wd (j + i) o
  | [], _, _, _, _, h => by simp at h
  | o :: l, j, 0, _, hs, h => by simp at h; subst h; exact hs.1
  | o :: l, j, i + 1, _, hs, h => by
    have := OpsOk.get (i := i) hs.2 (by simpa using h)
    rw [show j + (i + 1) = j + 1 + i by omega]; exact this

theorem idxOf_some {l : List Nat} {i k : Nat} (h : l.idxOf? i = some k) : l[k]? = some i := by
  induction l generalizing k with
  | nil => simp at h
  | cons x l ih =>
    rw [List.idxOf?_cons] at h
    split at h
    · rename_i hx; simp at hx; injection h with h; subst h; simp [hx]
    · cases hl : l.idxOf? i with
      | none => rw [hl] at h; cases h
      | some m => rw [hl] at h; injection h with h; subst h; simpa using ih hl

def putAll (a : Act) (ps : List (Nat × Value)) : Act := ps.foldl (fun a p => a.put (some p.1) p.2) a
theorem over_putAll (a : Act) (ds : List Nat) (v : Nat → Value) : over a ds v = putAll a (ds.map fun d => (d, v d)) := by
  have : ∀ (ds : List Nat) (a : Act), (putAll a (ds.map fun d => (d, v d))).defers = a.defers ∧ ∀ t : Nat, (putAll a (ds.map fun d => (d, v d))).tmps[t]? = (a.tmps[t]?).map (fun u => if ds.contains t then v t else u) := by
    intro ds
    induction ds with
    | nil => intro a; exact ⟨rfl, fun t => by simp [putAll]⟩
    | cons d ds ih =>
      intro a
      obtain ⟨h1, h2⟩ := ih (a.put (some d) (v d))
      refine ⟨h1, fun t => ?_⟩
      refine (h2 t).trans ?_
      show (((a.tmps.setIfInBounds d (v d))[t]?).map _) = _
      by_cases ht : t = d
      · subst ht
        rw [Array.getElem?_setIfInBounds_self]
        by_cases hs : t < a.tmps.size
        · rw [if_pos hs, Array.getElem?_eq_getElem hs]; simp
        · rw [if_neg hs, Array.getElem?_eq_none (by omega)]; rfl
      · rw [Array.getElem?_setIfInBounds_ne (Ne.symm ht)]
        cases a.tmps[t]? with
        | none => rfl
        | some u => simp [ht]
  exact act_ext (fun t => by rw [over_get, (this ds a).2 t]) (this ds a).1.symm

theorem OpOk.rd {P : Program} {ops : Array Oper} {Q : Exit → Act → World → Prop} {a0 : Act} {ds chain : List Nat} {pos : Nat → Option Nat} {fx : Nat → Value} {lim : Nat → Nat} {tl : Nat → List Nat} {Wd : List Value → World → Prop} {i : Nat} {o : Oper}
    (hi : chain.idxOf? i = none) (v : Value) (hv : fx (o.dst.getD 0) = v)
    (h : ∀ (ρ : Operand → Value) us w, (∀ t, ds.contains t = false → ρ (.tmp t) = a0.eval (.tmp t)) → (∀ t ∈ tl i, ρ (.tmp t) = slotVal pos fx us t) → (∀ v, ρ (.const v) = v) → us.length ≤ lim i → Wd us w → (execOp ρ o).run P w = .ok (.value v) w) :
    OpOk P ops Q a0 ds chain pos fx lim tl Wd i o := by
  unfold OpOk
  rw [hi]
  simp only [hv]
  exact h
theorem OpOk.wr {P : Program} {ops : Array Oper} {Q : Exit → Act → World → Prop} {a0 : Act} {ds chain : List Nat} {pos : Nat → Option Nat} {fx : Nat → Value} {lim : Nat → Nat} {tl : Nat → List Nat} {Wd : List Value → World → Prop} {i : Nat} {o : Oper} {k : Nat}
    (hi : chain.idxOf? i = some k)
    (h : ∀ (a : Act) us w, (∀ t, ds.contains t = false → a.eval (.tmp t) = a0.eval (.tmp t)) → (∀ t ∈ tl i, a.eval (.tmp t) = slotVal pos fx us t) → us.length = k → Wd us w →
      ∀ K : Act → World → Prop, (∀ x w', Wd (us ++ [x]) w' → K (a.put o.dst x) w') → if Region.wanted o (yielded ops a.tmps) = true then Oper.wp P o a w K Q else K (a.put o.dst undef) w) :
    OpOk P ops Q a0 ds chain pos fx lim tl Wd i o := by
  unfold OpOk
  rw [hi]
  exact h

end Go.Silo
namespace Go.Silo
open Go

theorem lookup_snoc_old {us : List (Nat × Value)} {i c : Nat} {x : Value} (h : c ∈ us.map Prod.fst) : (us ++ [(i, x)]).lookup c = us.lookup c := by
  induction us with
  | nil => simp at h
  | cons p us ih =>
    obtain ⟨a, b⟩ := p
    rw [List.cons_append, List.lookup_cons, List.lookup_cons]
    by_cases hc : c == a
    · rw [hc]
    · have hne : (c == a) = false := by simpa using hc
      rw [hne]
      refine ih ?_
      simp at h hc
      rcases h with h | h
      · exact absurd h hc
      · simpa using h
theorem lookup_snoc_new {us : List (Nat × Value)} {i : Nat} {x : Value} (h : i ∉ us.map Prod.fst) : (us ++ [(i, x)]).lookup i = some x := by
  induction us with
  | nil => simp
  | cons p us ih =>
    obtain ⟨a, b⟩ := p
    simp at h
    have hne : (i == a) = false := by simpa using h.1
    rw [List.cons_append, List.lookup_cons, hne]
    refine ih ?_
    simpa using h.2

/-- What an operation that makes no memory yields: reckoned of what some steps have yielded. -/
abbrev Fx := List (Nat × List Nat × (List Value → Value))
def Fx.src (fx : Fx) (t : Nat) : List Nat := match fx.lookup t with | some p => p.1 | none => []
def Fx.at_ (fx : Fx) (us : List (Nat × Value)) (t : Nat) : Value := match fx.lookup t with | some p => p.2 (p.1.map fun c => (us.lookup c).getD undef) | none => undef
theorem Fx.at_congr (fx : Fx) {us us' : List (Nat × Value)} {t : Nat} (h : ∀ c ∈ fx.src t, us.lookup c = us'.lookup c) : fx.at_ us t = fx.at_ us' t := by
  unfold Fx.at_
  unfold Fx.src at h
  cases hl : fx.lookup t with
  | none => rfl
  | some p =>
    rw [hl] at h
    simp only at h ⊢
    have e : (p.1.map fun c => (us.lookup c).getD undef) = p.1.map fun c => (us'.lookup c).getD undef := List.map_congr_left (fun c hc => by rw [h c hc])
    rw [e]

/-- What slot t holds: what step number 'pos t' has yielded, or what is reckoned of such. -/
def slotAt (pos : Nat → Option Nat) (fx : Fx) (us : List (Nat × Value)) (t : Nat) : Value := match pos t with | some i => (us.lookup i).getD undef | none => fx.at_ us t

def chkH (l : List Oper) (n : Nat) (ds mem : List Nat) (pos : Nat → Option Nat) (fx : Fx) (lim req tl old : Nat → List Nat) (i : Nat) (o : Oper) : Bool :=
  ((old i).all fun t => l.all fun oj => oj.dst != some t || oj.after.any fun e => Region.binds .any e && e.on == i) &&
  ((match o.dst with | none => mem.contains i | some d => ds.contains d && decide (d < n) && (pos d == if mem.contains i then some i else none) && l.zipIdx.all fun q => q.2 == i || q.1.dst != some d) &&
  ((lim i).all fun c => mem.contains c && (match l[c]? with | none => false | some oc => oc.after.any fun e => Region.binds .any e && e.on == i)) &&
  ((req i).all fun c => mem.contains c && o.after.any fun e => Region.binds .any e && e.on == c) &&
  ((tl i).all fun t => o.after.any fun e => Region.binds .any e && (match l[e.on]? with | some oj => oj.dst == some t | none => false)) &&
  (mem.contains i || (fx.src (o.dst.getD 0)).all fun c => mem.contains c && o.after.any fun e => Region.binds .any e && (e.on == c || (!mem.contains e.on && match l[e.on]? with | some oj => (match oj.dst with | some t => (fx.src t).contains c | none => false) | none => false))))
def chkHAll (l : List Oper) (n : Nat) (ds mem : List Nat) (pos : Nat → Option Nat) (fx : Fx) (lim req tl old : Nat → List Nat) : Bool :=
  (l.zipIdx.all fun p => chkH l n ds mem pos fx lim req tl old p.2 p.1) && mem.all (fun c => decide (c < l.length)) && ds.all (fun d => l.any fun o => o.dst == some d)

/-- An operation's guard holds. -/
def GuardOk (ops : Array Oper) (ρ : Operand → Value) (o : Oper) : Prop := match o.guard with | none => True | some g => ∃ t, (ops[g.1]?).bind (·.dst) = some t ∧ ρ (.tmp t) = .bool g.2
theorem GuardOk.wanted {ops : Array Oper} {a : Act} {o : Oper} (h : GuardOk ops a.eval o) : Region.wanted o (yielded ops a.tmps) = true := by
  unfold GuardOk at h
  unfold Region.wanted
  cases hg : o.guard with
  | none => rfl
  | some g =>
    rw [hg] at h
    obtain ⟨t, h1, h2⟩ := h
    have h3 : a.tmps[t]? = some (.bool g.2) := by
      have h4 : a.tmps.getD t undef = .bool g.2 := h2
      rw [Array.getD_eq_getD_getElem?] at h4
      cases ht : a.tmps[t]? with
      | none => rw [ht] at h4; cases h4
      | some v => rw [ht] at h4; exact congrArg some h4
    show (yielded ops a.tmps g.1 == some g.2) = true
    unfold yielded
    rw [h1]
    simp only [Option.bind_some, h3]
    simp
/-- An operation's guard does not hold. -/
def GuardNo (ops : Array Oper) (ρ : Operand → Value) (o : Oper) : Prop := ∃ j t b, o.guard = some (j, b) ∧ (ops[j]?).bind (·.dst) = some t ∧ ρ (.tmp t) ≠ .bool b
theorem GuardNo.unwanted {ops : Array Oper} {a : Act} {o : Oper} (h : GuardNo ops a.eval o) : Region.wanted o (yielded ops a.tmps) = false := by
  obtain ⟨j, t, b, hg, h1, h2⟩ := h
  unfold Region.wanted
  rw [hg]
  have h4 : a.tmps.getD t undef ≠ .bool b := h2
  rw [Array.getD_eq_getD_getElem?] at h4
  show (yielded ops a.tmps j == some b) = false
  unfold yielded
  rw [h1]
  simp only [Option.bind_some]
  cases ht : a.tmps[t]? with
  | none => rfl
  | some v =>
    rw [ht] at h4
    have h5 : v ≠ .bool b := h4
    cases v with
    | bool b' =>
      have hne : b' ≠ b := fun e => h5 (by rw [e])
      simpa using hne
    | _ => rfl
theorem GuardOk.no {ops : Array Oper} {ρ : Operand → Value} {o : Oper} (h : o.guard = none) : GuardOk ops ρ o := by unfold GuardOk; rw [h]; trivial
theorem GuardOk.at_ {ops : Array Oper} {ρ : Operand → Value} {o : Oper} {j t : Nat} {b : Bool} (h : o.guard = some (j, b)) (h1 : (ops[j]?).bind (·.dst) = some t) (h2 : ρ (.tmp t) = .bool b) : GuardOk ops ρ o := by unfold GuardOk; rw [h]; exact ⟨t, h1, h2⟩

/-- What an operation is to bring. -/
def OpH (P : Program) (ops : Array Oper) (Q : Exit → Act → World → Prop) (a0 : Act) (ds mem : List Nat) (pos : Nat → Option Nat) (fx : Fx) (lim req tl old : Nat → List Nat) (Wd : List (Nat × Value) → World → Prop) (i : Nat) (o : Oper) : Prop :=
  match mem.contains i with
  | false => ∀ (ρ : Operand → Value) us w, (∀ t, (ds.contains t && !(old i).contains t) = false → ρ (.tmp t) = a0.eval (.tmp t)) → (∀ t ∈ tl i, ρ (.tmp t) = slotAt pos fx us t) → (∀ v, ρ (.const v) = v) → (∀ c ∈ lim i, c ∉ us.map Prod.fst) → (∀ c ∈ fx.src (o.dst.getD 0), c ∈ us.map Prod.fst) → Wd us w →
      (GuardOk ops ρ o ∧ (execOp ρ o).run P w = .ok (.value (fx.at_ us (o.dst.getD 0))) w) ∨ (GuardNo ops ρ o ∧ fx.at_ us (o.dst.getD 0) = undef)
  | true => ∀ (a : Act) us w, (∀ t, (ds.contains t && !(old i).contains t) = false → a.eval (.tmp t) = a0.eval (.tmp t)) → (∀ t ∈ tl i, a.eval (.tmp t) = slotAt pos fx us t) → i ∉ us.map Prod.fst → (∀ c ∈ lim i, c ∉ us.map Prod.fst) → (∀ c ∈ req i, c ∈ us.map Prod.fst) → Wd us w →
      ∀ K : Act → World → Prop, (∀ x w', Wd (us ++ [(i, x)]) w' → K (a.put o.dst x) w') → if Region.wanted o (yielded ops a.tmps) = true then Oper.wp P o a w K Q else K (a.put o.dst undef) w
def OpsH (P : Program) (ops : Array Oper) (Q : Exit → Act → World → Prop) (a0 : Act) (ds mem : List Nat) (pos : Nat → Option Nat) (fx : Fx) (lim req tl old : Nat → List Nat) (Wd : List (Nat × Value) → World → Prop) : Nat → List Oper → Prop
  | _, [] => True
  | i, o :: l => OpH P ops Q a0 ds mem pos fx lim req tl old Wd i o ∧ OpsH P ops Q a0 ds mem pos fx lim req tl old Wd (i + 1) l
theorem OpsH.get {P : Program} {ops : Array Oper} {Q : Exit → Act → World → Prop} {a0 : Act} {ds mem : List Nat} {pos : Nat → Option Nat} {fx : Fx} {lim req tl old : Nat → List Nat} {Wd : List (Nat × Value) → World → Prop} :
    ∀ {l : List Oper} {j i : Nat} {o : Oper}, OpsH P ops Q a0 ds mem pos fx lim req tl old Wd j l → l[i]? = some o → OpH P ops Q a0 ds mem pos fx lim req tl old Wd (j + i) o
  | [], _, _, _, _, h => by simp at h
  | o :: l, j, 0, _, hs, h => by simp at h; subst h; exact hs.1
  | o :: l, j, i + 1, _, hs, h => by
    have := OpsH.get (i := i) hs.2 (by simpa using h)
    rw [show j + (i + 1) = j + 1 + i by omega]; exact this

theorem region_hist {P : Program} {id : Nat} {Q : Exit → Act → World → Prop} {a0 : Act} {w : World} {l : List Oper} (hm : P.follows .mixedOrders = true) (hac : acycB l = true)
    (ds mem : List Nat) (pos : Nat → Option Nat) (fx : Fx) (lim req tl old : Nat → List Nat) (Wd : List (Nat × Value) → World → Prop) (hchk : chkHAll l a0.tmps.size ds mem pos fx lim req tl old = true)
    (h0 : Wd [] w.drew) (hops : OpsH P l.toArray Q a0 ds mem pos fx lim req tl old Wd 0 l)
    (hend : ∀ us w', (∀ c ∈ mem, c ∈ us.map Prod.fst) → Wd us w' → Q .normal (over a0 ds (slotAt pos fx us)) w') :
    (Code.region id l.toArray true).wp P Q a0 w := by
  unfold chkHAll at hchk
  simp only [Bool.and_eq_true] at hchk
  obtain ⟨⟨hc1, hc2⟩, hc4⟩ := hchk
  have C : ∀ (i : Nat) (o : Oper), l[i]? = some o → chkH l a0.tmps.size ds mem pos fx lim req tl old i o = true := fun i o ho => (List.all_eq_true.1 hc1) (o, i) (List.mem_zipIdx_iff_getElem?.2 (by simpa using ho))
  have DD : ∀ (i : Nat) (o : Oper) (d : Nat), l[i]? = some o → o.dst = some d → ds.contains d = true ∧ d < a0.tmps.size ∧ (pos d = if mem.contains i then some i else none) ∧ ∀ (j : Nat) (oj : Oper), l[j]? = some oj → oj.dst = some d → j = i := fun i o d ho hd => by
    have := C i o ho; unfold chkH at this; simp only [Bool.and_eq_true, hd] at this; replace this := this.2
    obtain ⟨⟨⟨⟨⟨⟨⟨h1, h2⟩, h3⟩, h4⟩, _⟩, _⟩, _⟩, _⟩ := this
    refine ⟨h1, by simpa using h2, by simpa using h3, fun j oj hj hjd => ?_⟩
    have h5 := (List.all_eq_true.1 h4) (oj, j) (List.mem_zipIdx_iff_getElem?.2 (by simpa using hj))
    simp [hjd] at h5
    exact h5
  have DN : ∀ (i : Nat) (o : Oper), l[i]? = some o → o.dst = none → mem.contains i = true := fun i o ho hd => by
    have := C i o ho; unfold chkH at this; simp only [Bool.and_eq_true, hd] at this; replace this := this.2
    exact this.1.1.1.1
  have OLD : ∀ (i : Nat) (o : Oper), l[i]? = some o → ∀ t ∈ old i, ∀ (j : Nat) (oj : Oper), l[j]? = some oj → oj.dst = some t → ∃ e ∈ oj.after, Region.binds .any e = true ∧ e.on = i := fun i o ho t ht j oj hj hjd => by
    have := C i o ho
    unfold chkH at this
    rw [Bool.and_eq_true] at this
    have h2 := (List.all_eq_true.1 ((List.all_eq_true.1 this.1) t ht)) oj (List.mem_iff_getElem?.2 ⟨j, hj⟩)
    simp only [hjd, bne_self_eq_false, Bool.false_or] at h2
    obtain ⟨e, he, hb⟩ := Array.any_eq_true'.1 h2
    simp only [Bool.and_eq_true, beq_iff_eq] at hb
    exact ⟨e, he, hb.1, hb.2⟩
  have LIM : ∀ (i : Nat) (o : Oper), l[i]? = some o → ∀ c ∈ lim i, mem.contains c = true ∧ ∃ oc, l[c]? = some oc ∧ ∃ e ∈ oc.after, Region.binds .any e = true ∧ e.on = i := fun i o ho c hc => by
    have := C i o ho; unfold chkH at this; simp only [Bool.and_eq_true] at this; replace this := this.2
    have h2 := (List.all_eq_true.1 this.1.1.1.2) c hc
    simp only [Bool.and_eq_true] at h2
    refine ⟨h2.1, ?_⟩
    cases hl : l[c]? with
    | none => rw [hl] at h2; simp at h2
    | some oc =>
      rw [hl] at h2
      obtain ⟨e, he, hb⟩ := Array.any_eq_true'.1 h2.2
      simp only [Bool.and_eq_true, beq_iff_eq] at hb
      exact ⟨oc, rfl, e, he, hb.1, hb.2⟩
  have REQ : ∀ (i : Nat) (o : Oper), l[i]? = some o → ∀ c ∈ req i, mem.contains c = true ∧ ∃ e ∈ o.after, Region.binds .any e = true ∧ e.on = c := fun i o ho c hc => by
    have := C i o ho; unfold chkH at this; simp only [Bool.and_eq_true] at this; replace this := this.2
    have h2 := (List.all_eq_true.1 this.1.1.2) c hc
    simp only [Bool.and_eq_true] at h2
    obtain ⟨e, he, hb⟩ := Array.any_eq_true'.1 h2.2
    simp only [Bool.and_eq_true, beq_iff_eq] at hb
    exact ⟨h2.1, e, he, hb.1, hb.2⟩
  have TL : ∀ (i : Nat) (o : Oper), l[i]? = some o → ∀ t ∈ tl i, ∃ e ∈ o.after, Region.binds .any e = true ∧ ∃ oj, l[e.on]? = some oj ∧ oj.dst = some t := fun i o ho t ht => by
    have := C i o ho; unfold chkH at this; simp only [Bool.and_eq_true] at this; replace this := this.2
    have h2 := (List.all_eq_true.1 this.1.2) t ht
    obtain ⟨e, he, hb⟩ := Array.any_eq_true'.1 h2
    simp only [Bool.and_eq_true] at hb
    refine ⟨e, he, hb.1, ?_⟩
    cases hj : l[e.on]? with
    | none => rw [hj] at hb; simp at hb
    | some oj => rw [hj] at hb; exact ⟨oj, rfl, by simpa using hb.2⟩
  have AC : ∀ (i : Nat) (o : Oper), l[i]? = some o → ∀ e ∈ o.after, Region.binds .any e = true → e.on < i := fun i o ho e he hb => by
    unfold acycB at hac
    rw [List.all_eq_true] at hac
    have h1 := hac (o, i) (List.mem_zipIdx_iff_getElem?.2 (by simpa using ho))
    have h2 := Array.all_eq_true_iff_forall_mem.1 h1 e he
    simpa [hb] using h2
  have SRC1 : ∀ (i : Nat) (o : Oper) (d : Nat), l[i]? = some o → o.dst = some d → mem.contains i = false → ∀ c ∈ fx.src d, mem.contains c = true ∧ ∃ e ∈ o.after, Region.binds .any e = true ∧ (e.on = c ∨ (mem.contains e.on = false ∧ ∃ oj t, l[e.on]? = some oj ∧ oj.dst = some t ∧ c ∈ fx.src t)) := fun i o d ho hd hni c hc => by
    have := C i o ho; unfold chkH at this; simp only [Bool.and_eq_true] at this; replace this := this.2
    have h2 := this.2
    rw [hni, Bool.false_or, hd] at h2
    have h3 := (List.all_eq_true.1 h2) c hc
    simp only [Bool.and_eq_true] at h3
    refine ⟨h3.1, ?_⟩
    obtain ⟨e, he, hb⟩ := Array.any_eq_true'.1 h3.2
    simp only [Bool.and_eq_true, Bool.or_eq_true, beq_iff_eq, Bool.not_eq_true'] at hb
    refine ⟨e, he, hb.1, ?_⟩
    rcases hb.2 with h | ⟨h, h'⟩
    · exact .inl h
    · refine .inr ⟨h, ?_⟩
      cases hj : l[e.on]? with
      | none => rw [hj] at h'; cases h'
      | some oj =>
        rw [hj] at h'
        simp only at h'
        cases ht : oj.dst with
        | none => rw [ht] at h'; cases h'
        | some t => rw [ht] at h'; exact ⟨oj, t, rfl, ht, by simpa using h'⟩
  have SRC : ∀ D : Nat → Bool, (∀ (i : Nat) (o : Oper), l[i]? = some o → D i = true → ∀ e ∈ o.after, Region.binds .any e = true → D e.on = true) → ∀ (i : Nat) (o : Oper) (d : Nat), l[i]? = some o → o.dst = some d → mem.contains i = false → D i = true → ∀ c ∈ fx.src d, mem.contains c = true ∧ D c = true := by
    intro D hcl i
    induction i using Nat.strongRecOn with
    | _ i ih =>
      intro o d ho hd hni hDi c hc
      obtain ⟨h1, e, he, hb, h2⟩ := SRC1 i o d ho hd hni c hc
      have hDe := hcl i o ho hDi e he hb
      refine ⟨h1, ?_⟩
      rcases h2 with h2 | ⟨h2, oj, t, hj, hjt, hct⟩
      · rw [← h2]; exact hDe
      · exact (ih e.on (AC i o ho e he hb) oj t hj hjt h2 hDe c hct).2
  refine region_inv hm hac (fun D a w => ∃ us v, a = over a0 ds v ∧ Wd us w ∧ (∀ c : Nat, mem.contains c = true → (D c = true ↔ c ∈ us.map Prod.fst)) ∧
      (∀ (i : Nat) (o : Oper) (d : Nat), l[i]? = some o → o.dst = some d → D i = true → v d = slotAt pos fx us d) ∧ (∀ (i : Nat) (o : Oper), l[i]? = some o → D i = true → ∀ e ∈ o.after, Region.binds .any e = true → D e.on = true) ∧ ∀ t : Nat, (∀ (j : Nat) (oj : Oper), l[j]? = some oj → oj.dst = some t → D j = false) → v t = a0.eval (.tmp t)) ?_ ?_ ?_
  · exact ⟨[], _, (over_self a0 ds).symm, h0, fun c _ => by simp, fun _ _ _ _ _ h => (by cases h), fun _ _ _ h => (by cases h), fun _ _ => rfl⟩
  · have key : ∀ (i : Nat) (o : Oper), l[i]? = some o → OpH P l.toArray Q a0 ds mem pos fx lim req tl old Wd i o → StepInv P l.toArray Q (fun D a w => ∃ us v, a = over a0 ds v ∧ Wd us w ∧ (∀ c : Nat, mem.contains c = true → (D c = true ↔ c ∈ us.map Prod.fst)) ∧
        (∀ (i : Nat) (o : Oper) (d : Nat), l[i]? = some o → o.dst = some d → D i = true → v d = slotAt pos fx us d) ∧ (∀ (i : Nat) (o : Oper), l[i]? = some o → D i = true → ∀ e ∈ o.after, Region.binds .any e = true → D e.on = true) ∧ ∀ t : Nat, (∀ (j : Nat) (oj : Oper), l[j]? = some oj → oj.dst = some t → D j = false) → v t = a0.eval (.tmp t)) i o := by
      intro i o ho hok D a w ⟨us, v, ha, hW, hst, hval, hcl, hold⟩ hDi hdep K hK
      have hcl' : ∀ (j : Nat) (oj : Oper), l[j]? = some oj → upd D i j = true → ∀ e ∈ oj.after, Region.binds .any e = true → upd D i e.on = true := by
        intro j oj hj hDj e he hb
        by_cases hji : j = i
        · subst hji
          rw [ho] at hj; injection hj with hj; subst hj
          by_cases h : e.on = j
          · rw [h]; exact upd_self _ _
          · rw [upd_other _ h]; exact hdep e he hb
        · rw [upd_other _ hji] at hDj
          have := hcl j oj hj hDj e he hb
          by_cases h : e.on = i
          · rw [h]; exact upd_self _ _
          · rw [upd_other _ h]; exact this
      have hin : ∀ t ∈ tl i, a.eval (.tmp t) = slotAt pos fx us t := by
        intro t ht
        obtain ⟨e, he, hb, oj, hj, hjd⟩ := TL i o ho t ht
        have hd := DD _ _ _ hj hjd
        rw [ha, over_eval _ _ _ _ hd.1 hd.2.1]
        exact hval _ _ _ hj hjd (hdep e he hb)
      have hout : ∀ t, (ds.contains t && !(old i).contains t) = false → a.eval (.tmp t) = a0.eval (.tmp t) := fun t ht => by
        rw [ha]
        cases hdt : ds.contains t with
        | false => exact over_eval' _ _ _ _ hdt
        | true =>
          rw [hdt, Bool.true_and] at ht
          have hto : t ∈ old i := by simpa using ht
          obtain ⟨ow, hom, hod⟩ := List.any_eq_true.1 ((List.all_eq_true.1 hc4) t (by simpa using hdt))
          obtain ⟨jw, hjw⟩ := List.mem_iff_getElem?.1 hom
          rw [over_eval _ _ _ _ hdt (DD _ _ _ hjw (by simpa using hod)).2.1]
          refine hold t (fun j oj hj hjd => ?_)
          obtain ⟨e, he, hb, hon⟩ := OLD i o ho t hto j oj hj hjd
          cases hDj : D j with
          | false => rfl
          | true => have := hcl j oj hj hDj e he hb; rw [hon, hDi] at this; cases this
      have hold' : ∀ (d : Nat) (x : Value), o.dst = some d → ∀ t : Nat, (∀ (j : Nat) (oj : Oper), l[j]? = some oj → oj.dst = some t → upd D i j = false) → (if t = d then x else v t) = a0.eval (.tmp t) := fun d x hd t ht => by
        by_cases htd : t = d
        · subst htd
          have := ht i o ho hd
          rw [upd_self] at this; cases this
        · rw [if_neg htd]
          refine hold t (fun j oj hj hjd => ?_)
          have h2 := ht j oj hj hjd
          by_cases hji : j = i
          · subst hji; rw [upd_self] at h2; cases h2
          · rwa [upd_other _ hji] at h2
      have hold0 : ∀ t : Nat, (∀ (j : Nat) (oj : Oper), l[j]? = some oj → oj.dst = some t → upd D i j = false) → v t = a0.eval (.tmp t) := fun t ht => by
        refine hold t (fun j oj hj hjd => ?_)
        have h2 := ht j oj hj hjd
        by_cases hji : j = i
        · subst hji; rw [upd_self] at h2; cases h2
        · rwa [upd_other _ hji] at h2
      have hlim : ∀ c ∈ lim i, c ∉ us.map Prod.fst := by
        intro c hc hmem
        obtain ⟨hm1, oc, hl, e, he, hb, hon⟩ := LIM i o ho c hc
        have h1 := (hst c hm1).2 hmem
        have h2 := hcl c oc hl h1 e he hb
        rw [hon, hDi] at h2; cases h2
      unfold OpH at hok
      cases hki : mem.contains i with
      | false =>
        rw [hki] at hok
        simp only at hok
        have hsrc : ∀ c ∈ fx.src (o.dst.getD 0), c ∈ us.map Prod.fst := by
          intro c hc
          cases hd : o.dst with
          | none => have := DN i o ho hd; rw [hki] at this; cases this
          | some d =>
            rw [hd] at hc
            obtain ⟨h1, e, he, hb, h2⟩ := SRC1 i o d ho hd hki c hc
            have hDe := hdep e he hb
            refine (hst c h1).1 ?_
            rcases h2 with h2 | ⟨h2, oj, t, hj, hjt, hct⟩
            · rw [← h2]; exact hDe
            · exact (SRC D hcl e.on oj t hj hjt h2 hDe c hct).2
        have hstep : K (a.put o.dst (fx.at_ us (o.dst.getD 0))) w := by
          cases hd : o.dst with
          | none => have := DN i o ho hd; rw [hki] at this; cases this
          | some d =>
            obtain ⟨d1, d2, d3, d4⟩ := DD i o d ho hd
            rw [hki] at d3
            refine hK _ _ ⟨us, fun t => if t = d then fx.at_ us d else v t, by rw [ha]; exact over_put _ _ _ _ _ d1, hW, fun c hc => ?_, fun j oj d' hj hjd hDj => ?_, hcl', hold' d _ hd⟩
            · have : c ≠ i := fun h => by subst h; rw [hki] at hc; cases hc
              rw [upd_other _ this]; exact hst c hc
            · by_cases hdd : d' = d
              · subst hdd
                simp only [if_true]
                unfold slotAt
                rw [d3]
                rfl
              · have hji : j ≠ i := fun h => by subst h; rw [ho] at hj; injection hj with hj; subst hj; rw [hd] at hjd; injection hjd with hjd; exact hdd hjd.symm
                simp only [if_neg hdd]
                rw [upd_other _ hji] at hDj
                exact hval j oj d' hj hjd hDj
        rcases hok a.eval us w hout hin (fun _ => rfl) hlim hsrc hW with ⟨hgd, hrun⟩ | ⟨hgn, hun⟩
        · rw [if_pos hgd.wanted]
          simp only [Oper.wp, hrun, Oper.upon]
          exact hstep
        · rw [if_neg (by rw [hgn.unwanted]; decide), ← hun]
          exact hstep
      | true =>
        rw [hki] at hok
        simp only at hok
        have hni : i ∉ us.map Prod.fst := fun h => by have := (hst i hki).2 h; rw [hDi] at this; cases this
        have hreq : ∀ c ∈ req i, c ∈ us.map Prod.fst := by
          intro c hc
          obtain ⟨hm1, e, he, hb, hon⟩ := REQ i o ho c hc
          have := hdep e he hb
          rw [hon] at this
          exact (hst c hm1).1 this
        refine hok a us w hout hin hni hlim hreq hW K (fun x w' hW' => hK _ _ ?_)
        have hst' : ∀ c : Nat, mem.contains c = true → (upd D i c = true ↔ c ∈ (us ++ [(i, x)]).map Prod.fst) := fun c hc => by
          rw [List.map_append, List.mem_append]
          by_cases hci : c = i
          · subst hci
            rw [upd_self]
            simp
          · rw [upd_other _ hci, hst c hc]
            simp [hci]
        have hstab : ∀ (j : Nat) (oj : Oper) (d' : Nat), l[j]? = some oj → oj.dst = some d' → D j = true → slotAt pos fx (us ++ [(i, x)]) d' = slotAt pos fx us d' := by
          intro j oj d' hj hjd hDj
          obtain ⟨_, _, e3, _⟩ := DD j oj d' hj hjd
          unfold slotAt
          rw [e3]
          cases hkj : mem.contains j with
          | false =>
            refine Fx.at_congr fx (fun c hc => ?_)
            obtain ⟨h1, h2⟩ := SRC D hcl j oj d' hj hjd hkj hDj c hc
            exact lookup_snoc_old ((hst c h1).1 h2)
          | true =>
            have := (hst j hkj).1 hDj
            simp only [if_true]
            rw [lookup_snoc_old this]
        cases hd : o.dst with
        | none =>
          refine ⟨us ++ [(i, x)], v, ha, hW', hst', fun j oj d' hj hjd hDj => ?_, hcl', hold0⟩
          have hji : j ≠ i := fun h => by subst h; rw [ho] at hj; injection hj with hj; subst hj; rw [hd] at hjd; cases hjd
          rw [upd_other _ hji] at hDj
          rw [hstab j oj d' hj hjd hDj]
          exact hval j oj d' hj hjd hDj
        | some d =>
          obtain ⟨d1, d2, d3, d4⟩ := DD i o d ho hd
          rw [hki] at d3
          refine ⟨us ++ [(i, x)], fun t => if t = d then x else v t, by rw [ha]; exact over_put _ _ _ _ _ d1, hW', hst', fun j oj d' hj hjd hDj => ?_, hcl', hold' d _ hd⟩
          by_cases hdd : d' = d
          · subst hdd
            simp only [if_true]
            unfold slotAt
            rw [d3]
            simp only [if_true]
            rw [lookup_snoc_new hni]
            rfl
          · have hji : j ≠ i := fun h => by subst h; rw [ho] at hj; injection hj with hj; subst hj; rw [hd] at hjd; injection hjd with hjd; exact hdd hjd.symm
            simp only [if_neg hdd]
            rw [upd_other _ hji] at hDj
            rw [hstab j oj d' hj hjd hDj]
            exact hval j oj d' hj hjd hDj
    have all : ∀ (I : (Nat → Bool) → Act → World → Prop) (key : ∀ (i : Nat) (o : Oper), l[i]? = some o → OpH P l.toArray Q a0 ds mem pos fx lim req tl old Wd i o → StepInv P l.toArray Q I i o) (m : List Oper) (j : Nat), (∀ (i : Nat) (o : Oper), m[i]? = some o → l[j + i]? = some o) → OpsH P l.toArray Q a0 ds mem pos fx lim req tl old Wd j m → StepsInv P l.toArray Q I j m := by
      intro I key m
      induction m with
      | nil => intro j _ _; trivial
      | cons o m ih =>
        intro j hm' hok
        refine ⟨key j o (by simpa using hm' 0 o rfl) hok.1, ih (j + 1) (fun i o' h => ?_) hok.2⟩
        have := hm' (i + 1) o' (by simpa using h)
        rw [show j + 1 + i = j + (i + 1) by omega]; exact this
    exact all _ key l 0 (fun i o h => by simpa using h) hops
  · intro D a w ⟨us, v, ha, hW, hst, hval, _, _⟩ hall
    have hfull : ∀ c ∈ mem, c ∈ us.map Prod.fst := fun c hc => by
      have hlt : c < l.length := by simpa using (List.all_eq_true.1 hc2) _ hc
      exact (hst c (by simpa using hc)).1 (hall _ hlt)
    have : a = over a0 ds (slotAt pos fx us) := by
      rw [ha]
      refine over_congr _ _ _ _ (fun t ht => ?_)
      have h1 := (List.all_eq_true.1 hc4) t (by simpa using ht)
      obtain ⟨o, hom, hod⟩ := List.any_eq_true.1 h1
      obtain ⟨j, hj⟩ := List.mem_iff_getElem?.1 hom
      exact hval j o t hj (by simpa using hod) (hall j (List.getElem?_eq_some_iff.1 hj).1)
    rw [this]
    exact hend us w hfull hW

theorem OpH.rd {P : Program} {ops : Array Oper} {Q : Exit → Act → World → Prop} {a0 : Act} {ds mem : List Nat} {pos : Nat → Option Nat} {fx : Fx} {lim req tl old : Nat → List Nat} {Wd : List (Nat × Value) → World → Prop} {i : Nat} {o : Oper}
    (hi : mem.contains i = false) (hg : o.guard = none)
    (h : ∀ (ρ : Operand → Value) us w, (∀ t, (ds.contains t && !(old i).contains t) = false → ρ (.tmp t) = a0.eval (.tmp t)) → (∀ t ∈ tl i, ρ (.tmp t) = slotAt pos fx us t) → (∀ v, ρ (.const v) = v) → (∀ c ∈ lim i, c ∉ us.map Prod.fst) → (∀ c ∈ fx.src (o.dst.getD 0), c ∈ us.map Prod.fst) → Wd us w → (execOp ρ o).run P w = .ok (.value (fx.at_ us (o.dst.getD 0))) w) :
    OpH P ops Q a0 ds mem pos fx lim req tl old Wd i o := by
  unfold OpH
  rw [hi]
  exact fun ρ us w h1 h2 h3 h4 h5 h6 => .inl ⟨.no hg, h ρ us w h1 h2 h3 h4 h5 h6⟩
theorem OpH.rdg {P : Program} {ops : Array Oper} {Q : Exit → Act → World → Prop} {a0 : Act} {ds mem : List Nat} {pos : Nat → Option Nat} {fx : Fx} {lim req tl old : Nat → List Nat} {Wd : List (Nat × Value) → World → Prop} {i : Nat} {o : Oper}
    (hi : mem.contains i = false) (j t : Nat) (b : Bool) (hg : o.guard = some (j, b)) (hd : (ops[j]?).bind (·.dst) = some t) (ht : t ∈ tl i) (hv : ∀ us w, Wd us w → slotAt pos fx us t = .bool b)
    (h : ∀ (ρ : Operand → Value) us w, (∀ t, (ds.contains t && !(old i).contains t) = false → ρ (.tmp t) = a0.eval (.tmp t)) → (∀ t ∈ tl i, ρ (.tmp t) = slotAt pos fx us t) → (∀ v, ρ (.const v) = v) → (∀ c ∈ lim i, c ∉ us.map Prod.fst) → (∀ c ∈ fx.src (o.dst.getD 0), c ∈ us.map Prod.fst) → Wd us w → (execOp ρ o).run P w = .ok (.value (fx.at_ us (o.dst.getD 0))) w) :
    OpH P ops Q a0 ds mem pos fx lim req tl old Wd i o := by
  unfold OpH
  rw [hi]
  exact fun ρ us w h1 h2 h3 h4 h5 h6 => .inl ⟨.at_ hg hd ((h2 t ht).trans (hv us w h6)), h ρ us w h1 h2 h3 h4 h5 h6⟩
theorem OpH.rdn {P : Program} {ops : Array Oper} {Q : Exit → Act → World → Prop} {a0 : Act} {ds mem : List Nat} {pos : Nat → Option Nat} {fx : Fx} {lim req tl old : Nat → List Nat} {Wd : List (Nat × Value) → World → Prop} {i : Nat} {o : Oper}
    (hi : mem.contains i = false) (j t : Nat) (b : Bool) (hg : o.guard = some (j, b)) (hd : (ops[j]?).bind (·.dst) = some t) (ht : t ∈ tl i) (hv : ∀ us w, Wd us w → slotAt pos fx us t = .bool (!b)) (hu : ∀ us, fx.at_ us (o.dst.getD 0) = undef) :
    OpH P ops Q a0 ds mem pos fx lim req tl old Wd i o := by
  unfold OpH
  rw [hi]
  exact fun ρ us w _ h2 _ _ _ h6 => .inr ⟨⟨j, t, b, hg, hd, by rw [(h2 t ht).trans (hv us w h6)]; cases b <;> (intro e; cases e)⟩, hu us⟩
/-- As rdn: the guard itself was never asked. -/
theorem OpH.rdu {P : Program} {ops : Array Oper} {Q : Exit → Act → World → Prop} {a0 : Act} {ds mem : List Nat} {pos : Nat → Option Nat} {fx : Fx} {lim req tl old : Nat → List Nat} {Wd : List (Nat × Value) → World → Prop} {i : Nat} {o : Oper}
    (hi : mem.contains i = false) (j t : Nat) (b : Bool) (hg : o.guard = some (j, b)) (hd : (ops[j]?).bind (·.dst) = some t) (ht : t ∈ tl i) (hv : ∀ us w, Wd us w → slotAt pos fx us t = undef) (hu : ∀ us, fx.at_ us (o.dst.getD 0) = undef) :
    OpH P ops Q a0 ds mem pos fx lim req tl old Wd i o := by
  unfold OpH
  rw [hi]
  exact fun ρ us w _ h2 _ _ _ h6 => .inr ⟨⟨j, t, b, hg, hd, by rw [(h2 t ht).trans (hv us w h6)]; intro e; cases e⟩, hu us⟩
theorem OpH.wr {P : Program} {ops : Array Oper} {Q : Exit → Act → World → Prop} {a0 : Act} {ds mem : List Nat} {pos : Nat → Option Nat} {fx : Fx} {lim req tl old : Nat → List Nat} {Wd : List (Nat × Value) → World → Prop} {i : Nat} {o : Oper}
    (hi : mem.contains i = true)
    (h : ∀ (a : Act) us w, (∀ t, (ds.contains t && !(old i).contains t) = false → a.eval (.tmp t) = a0.eval (.tmp t)) → (∀ t ∈ tl i, a.eval (.tmp t) = slotAt pos fx us t) → i ∉ us.map Prod.fst → (∀ c ∈ lim i, c ∉ us.map Prod.fst) → (∀ c ∈ req i, c ∈ us.map Prod.fst) → Wd us w →
      ∀ K : Act → World → Prop, (∀ x w', Wd (us ++ [(i, x)]) w' → K (a.put o.dst x) w') → if Region.wanted o (yielded ops a.tmps) = true then Oper.wp P o a w K Q else K (a.put o.dst undef) w) :
    OpH P ops Q a0 ds mem pos fx lim req tl old Wd i o := by
  unfold OpH
  rw [hi]
  exact h

/-- 'region_hist' with its tables as lists. 'n': how many slots the frame has. -/
theorem region_free {P : Program} {id : Nat} {Q : Exit → Act → World → Prop} {a0 : Act} {w : World} {l : List Oper} (hm : P.follows .mixedOrders = true) (hac : acycB l = true) (n : Nat) (hn : a0.tmps.size = n)
    (ds mem : List Nat) (pos : List (Nat × Nat)) (fx : Fx) (lim req tl : List (List Nat)) (Wd : List (Nat × Value) → World → Prop)
    (hchk : chkHAll l n ds mem (fun t => pos.lookup t) fx (fun i => lim.getD i []) (fun i => req.getD i []) (fun i => tl.getD i []) (fun _ => []) = true)
    (h0 : Wd [] w.drew) (hops : OpsH P l.toArray Q a0 ds mem (fun t => pos.lookup t) fx (fun i => lim.getD i []) (fun i => req.getD i []) (fun i => tl.getD i []) (fun _ => []) Wd 0 l)
    (hend : ∀ us w', (∀ c ∈ mem, c ∈ us.map Prod.fst) → Wd us w' → Q .normal (putAll a0 (ds.map fun d => (d, slotAt (fun t => pos.lookup t) fx us d))) w') :
    (Code.region id l.toArray true).wp P Q a0 w := by
  subst hn
  exact region_hist hm hac ds mem _ _ _ _ _ _ Wd hchk h0 hops (fun us w' h hW => by rw [over_putAll]; exact hend us w' h hW)
/-- As region_free; 'old': slots that an operation reads ahead of their being written. 'n': how many slots the frame has. -/
theorem region_old {P : Program} {id : Nat} {Q : Exit → Act → World → Prop} {a0 : Act} {w : World} {l : List Oper} (hm : P.follows .mixedOrders = true) (hac : acycB l = true) (n : Nat) (hn : a0.tmps.size = n)
    (ds mem : List Nat) (pos : List (Nat × Nat)) (fx : Fx) (lim req tl old : List (List Nat)) (Wd : List (Nat × Value) → World → Prop)
    (hchk : chkHAll l n ds mem (fun t => pos.lookup t) fx (fun i => lim.getD i []) (fun i => req.getD i []) (fun i => tl.getD i []) (fun i => old.getD i []) = true)
    (h0 : Wd [] w.drew) (hops : OpsH P l.toArray Q a0 ds mem (fun t => pos.lookup t) fx (fun i => lim.getD i []) (fun i => req.getD i []) (fun i => tl.getD i []) (fun i => old.getD i []) Wd 0 l)
    (hend : ∀ us w', (∀ c ∈ mem, c ∈ us.map Prod.fst) → Wd us w' → Q .normal (putAll a0 (ds.map fun d => (d, slotAt (fun t => pos.lookup t) fx us d))) w') :
    (Code.region id l.toArray true).wp P Q a0 w := by
  subst hn
  exact region_hist hm hac ds mem _ _ _ _ _ _ Wd hchk h0 hops (fun us w' h hW => by rw [over_putAll]; exact hend us w' h hW)
end Go.Silo

