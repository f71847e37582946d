/- A region that draws its order: an invariant over what has come up serves for all orders. -/
import Derived.Test.YtjeecdoffoahkaaBase
namespace Go.Silo
open Go

def upd (D : Nat → Bool) (i : Nat) : Nat → Bool := fun k => if k = i then true else D k
theorem upd_self (D : Nat → Bool) (i : Nat) : upd D i i = true := by simp [upd]
theorem upd_other (D : Nat → Bool) {i k : Nat} (h : k ≠ i) : upd D i k = D k := by simp [upd, h]

/-- Operation i, whenever it may come up, carries the invariant on. -/
def StepInv (P : Program) (ops : Array Oper) (Q : Exit → Act → World → Prop) (I : (Nat → Bool) → Act → World → Prop) (i : Nat) (o : Oper) : Prop :=
  ∀ D a w, I D a w → D i = false → (∀ e ∈ o.after, Region.binds .any e = true → D e.on = true) →
    ∀ K : Act → World → Prop, (∀ a w, I (upd D i) a w → K a w) → if Region.wanted o (yielded ops a.tmps) = true then Oper.wp P o a w K Q else K (a.put o.dst undef) w
def StepsInv (P : Program) (ops : Array Oper) (Q : Exit → Act → World → Prop) (I : (Nat → Bool) → Act → World → Prop) : Nat → List Oper → Prop
  | _, [] => True
  | i, o :: l => StepInv P ops Q I i o ∧ StepsInv P ops Q I (i + 1) l
theorem StepsInv.get {P : Program} {ops : Array Oper} {Q : Exit → Act → World → Prop} {I : (Nat → Bool) → Act → World → Prop} : ∀ {l : List Oper} {j i : Nat} {o : Oper}, StepsInv P ops Q I j l → l[i]? = some o → StepInv P ops Q I (j + i) o
  | [], _, _, _, _, h => by simp at h
  | o :: l, j, 0, _, hs, h => by simp at h; subst h; exact hs.1
  | o :: l, j, i + 1, _, hs, h => by
    have := StepsInv.get (i := i) hs.2 (by simpa using h)
    rw [show j + (i + 1) = j + 1 + i by omega]; exact this

theorem countF_set {l : List Bool} {i : Nat} (h : l[i]? = some false) : (l.set i true).countP (fun b => !b) + 1 = l.countP (fun b => !b) := by
  induction l generalizing i with
  | nil => simp at h
  | cons b l ih =>
    cases i with
    | zero => simp at h; subst h; simp
    | succ i =>
      have := ih (i := i) (by simpa using h)
      rw [List.set_cons_succ, List.countP_cons, List.countP_cons]
      omega

theorem wpAny_inv {P : Program} {ops : Array Oper} {Q : Exit → Act → World → Prop} {I : (Nat → Bool) → Act → World → Prop}
    (hac : ∀ (i : Nat) (o : Oper), ops[i]? = some o → ∀ e ∈ o.after, Region.binds .any e = true → e.on < i) (hs : ∀ (i : Nat) (o : Oper), ops[i]? = some o → StepInv P ops Q I i o)
    (hend : ∀ D a w, I D a w → (∀ i, i < ops.size → D i = true) → Q .normal a w) :
    ∀ (fuel : Nat) (L : Array Bool) (a : Act) (w : World), L.size = ops.size → L.toList.countP (fun b => !b) ≤ fuel → I (fun k => L.getD k false) a w → wpAny P .any ops Q fuel L a w := by
  have stuck : ∀ L : Array Bool, L.size = ops.size → Region.ready .any ops L = [] → ∀ i, i < ops.size → L.getD i false = true := by
    intro L hL hr i
    induction i using Nat.strongRecOn with
    | _ i ih =>
      intro hi
      cases hb : L.getD i false with
      | true => rfl
      | false =>
        exfalso
        have hlt : i < L.size := by omega
        have hbt : L.getD i true = false := by
          simp [Array.getElem?_eq_getElem hlt] at hb ⊢
          exact hb
        have ho : ops[i]? = some ops[i] := Array.getElem?_eq_getElem hi
        have : i ∈ Region.ready .any ops L := mem_ready.2 ⟨hbt, _, ho, fun e he hb => ih e.on (hac i _ ho e he hb) (Nat.lt_trans (hac i _ ho e he hb) hi)⟩
        rw [hr] at this
        cases this
  intro fuel
  induction fuel with
  | zero =>
    intro L a w hL hc hI
    have hall : ∀ i, i < ops.size → L.getD i false = true := by
      intro i hi
      have hlt : i < L.size := by omega
      have h0 : L.toList.countP (fun b => !b) = 0 := by omega
      rw [List.countP_eq_zero] at h0
      have := h0 L[i] (by simp)
      simp at this
      simp [Array.getElem?_eq_getElem hlt, this]
    refine ⟨?_, hend _ a w hI hall⟩
    cases hr : Region.ready .any ops L with
    | nil => rfl
    | cons i r =>
      exfalso
      have hm : i ∈ Region.ready .any ops L := by rw [hr]; simp
      obtain ⟨h1, o, ho, _⟩ := mem_ready.1 hm
      have hi : i < ops.size := (Array.getElem?_eq_some_iff.1 ho).1
      have h2 := hall i hi
      have hlt : i < L.size := by omega
      simp [Array.getElem?_eq_getElem hlt] at h1 h2
      rw [h1] at h2; cases h2
  | succ fuel ih =>
    intro L a w hL hc hI
    refine ⟨fun hr => hend _ a w hI (stuck L hL hr), fun i hm => ?_⟩
    obtain ⟨h1, o, ho, hdep⟩ := mem_ready.1 hm
    have hi : i < ops.size := (Array.getElem?_eq_some_iff.1 ho).1
    have hlt : i < L.size := by omega
    have hLi : L[i] = false := by simpa [Array.getElem?_eq_getElem hlt] using h1
    refine wpOp_step ho (fun K' hK => hs i o ho _ a w hI (by simp [Array.getElem?_eq_getElem hlt, hLi]) hdep K' (fun a' w' hI' => hK a' w' (ih _ a' w' (by simpa using hL) ?_ ?_)))
    · have := countF_set (l := L.toList) (i := i) (by simp [Array.getElem?_eq_getElem hlt, hLi])
      rw [Array.toList_setIfInBounds]
      omega
    · have : (fun k => (L.setIfInBounds i true).getD k false) = upd (fun k => L.getD k false) i := by
        funext k
        by_cases hk : k = i
        · subst hk; rw [upd_self]; simp [hlt]
        · rw [upd_other _ hk]; simp [Array.getElem?_setIfInBounds_ne (Ne.symm hk)]
      rw [this]
      exact hI'

def acycB (l : List Oper) : Bool := l.zipIdx.all fun p => p.1.after.all fun e => !Region.binds .any e || decide (e.on < p.2)
theorem region_inv {P : Program} {id : Nat} {Q : Exit → Act → World → Prop} {a : Act} {w : World} {l : List Oper} (hm : P.follows .mixedOrders = true) (hac : acycB l = true)
    (I : (Nat → Bool) → Act → World → Prop) (h0 : I (fun _ => false) a w.drew) (hs : StepsInv P l.toArray Q I 0 l) (hend : ∀ D a w, I D a w → (∀ i, i < l.length → D i = true) → Q .normal a w) :
    (Code.region id l.toArray true).wp P Q a w := by
  refine wp_region_any hm (wpAny_inv ?_ ?_ (fun D a w hI h => hend D a w hI (by simpa using h)) _ _ a w.drew (by simp) ?_ ?_)
  · intro i o ho e he hb
    unfold acycB at hac
    rw [List.all_eq_true] at hac
    have h1 := hac (o, i) (List.mem_zipIdx_iff_getElem?.2 (by simpa using ho))
    have h2 := Array.all_eq_true_iff_forall_mem.1 h1 e he
    simpa [hb] using h2
  · intro i o ho
    have := hs.get (i := i) (by simpa using ho)
    simpa using this
  · have : (Array.replicate l.toArray.size false).toList.countP (fun b => !b) ≤ (Array.replicate l.toArray.size false).toList.length := List.countP_le_length
    simpa using this
  · have : (fun k => (Array.replicate l.toArray.size false).getD k false) = fun _ => false := by
      funext k
      rcases Nat.lt_or_ge k l.toArray.size with h | h
      · simp [Array.getElem?_replicate]; split <;> rfl
      · simp [Array.getElem?_replicate]; split <;> rfl
    rw [this]; exact h0

/-! ### Operations that make or write memory stand in one row; all others read, and read the same whenever they come up -/

/-- A frame, whose slots 'ds' hold what v says. -/
def over (a : Act) (ds : List Nat) (v : Nat → Value) : Act := ⟨(a.tmps.toList.zipIdx.map (fun p => if ds.contains p.2 then v p.2 else p.1)).toArray, a.defers⟩
theorem over_get (a : Act) (ds : List Nat) (v : Nat → Value) (t : Nat) : (over a ds v).tmps[t]? = (a.tmps[t]?).map (fun u => if ds.contains t then v t else u) := by
  simp only [over, List.getElem?_toArray, List.getElem?_map, List.getElem?_zipIdx, Array.getElem?_toList, Option.map_map]
  cases a.tmps[t]? with
  | none => rfl
  | some u => simp
theorem over_size (a : Act) (ds : List Nat) (v : Nat → Value) : (over a ds v).tmps.size = a.tmps.size := by simp [over]
theorem act_ext {a b : Act} (h : ∀ t : Nat, a.tmps[t]? = b.tmps[t]?) (hd : a.defers = b.defers) : a = b := by
  obtain ⟨x, d⟩ := a
  obtain ⟨y, e⟩ := b
  simp only at h hd
  rw [hd, Array.ext_getElem? h]
theorem over_put (a : Act) (ds : List Nat) (v : Nat → Value) (d : Nat) (x : Value) (h : ds.contains d = true) : (over a ds v).put (some d) x = over a ds (fun t => if t = d then x else v t) := by
  refine act_ext (fun t => ?_) rfl
  rw [over_get]
  show ((over a ds v).tmps.setIfInBounds d x)[t]? = _
  by_cases ht : t = d
  · subst ht
    simp only [h, if_true]
    rw [Array.getElem?_setIfInBounds_self, over_size]
    by_cases hs : t < a.tmps.size
    · rw [if_pos hs, Array.getElem?_eq_getElem hs]; simp
    · rw [if_neg hs, Array.getElem?_eq_none (by omega)]; rfl
  · rw [Array.getElem?_setIfInBounds_ne (Ne.symm ht), over_get]
    simp only [if_neg ht]
theorem over_self (a : Act) (ds : List Nat) : over a ds (fun t => a.eval (.tmp t)) = a := by
  refine act_ext (fun t => ?_) rfl
  rw [over_get]
  cases h : a.tmps[t]? with
  | none => rfl
  | some u => simp [Act.eval, h]
theorem over_eval (a : Act) (ds : List Nat) (v : Nat → Value) (t : Nat) (h : ds.contains t = true) (hs : t < a.tmps.size) : (over a ds v).eval (.tmp t) = v t := by
  show ((over a ds v).tmps.getD t undef) = _
  rw [Array.getD_eq_getD_getElem?, over_get, Array.getElem?_eq_getElem hs]
  simp
  intro hh
  simp at h
  exact absurd h hh
theorem over_eval' (a : Act) (ds : List Nat) (v : Nat → Value) (t : Nat) (h : ds.contains t = false) : (over a ds v).eval (.tmp t) = a.eval (.tmp t) := by
  show ((over a ds v).tmps.getD t undef) = a.tmps.getD t undef
  rw [Array.getD_eq_getD_getElem?, over_get, Array.getD_eq_getD_getElem?]
  simp only [h]
  cases a.tmps[t]? <;> rfl
theorem over_congr (a : Act) (ds : List Nat) (v v' : Nat → Value) (h : ∀ t, ds.contains t = true → v t = v' t) : over a ds v = over a ds v' := by
  refine act_ext (fun t => ?_) rfl
  rw [over_get, over_get]
  cases hc : ds.contains t with
  | false => simp
  | true => simp [h t hc]

/-- What slot t holds: of the row of the operations that turn the memory (number 'pos t'), or always the same. -/
def slotVal (pos : Nat → Option Nat) (fx : Nat → Value) (us : List Value) (t : Nat) : Value := match pos t with | some k => us.getD k undef | none => fx t

/-- One operation's place: checked by the kernel. -/
def chk (l : List Oper) (n : Nat) (ds chain : List Nat) (pos : Nat → Option Nat) (lim : Nat → Nat) (tl : Nat → List Nat) (i : Nat) (o : Oper) : Bool :=
  o.guard.isNone && (match o.dst with | none => chain.contains i | some d => ds.contains d && decide (d < n) && (match chain.idxOf? i with | some k => pos d == some k | none => pos d == none) && l.zipIdx.all fun q => q.2 == i || q.1.dst != some d) &&
  (match chain.idxOf? i with
    | some k => k == 0 || (match chain[k - 1]? with | some c => o.after.any fun e => Region.binds .any e && e.on == c | none => false)
    | none => match chain[lim i]? with
      | none => true
      | some c => match l[c]? with | none => false | some oc => oc.after.any fun e => Region.binds .any e && e.on == i) &&
  (tl i).all fun t => o.after.any fun e => Region.binds .any e && (match l[e.on]? with | some oj => oj.dst == some t | none => false)
def chkAll (l : List Oper) (n : Nat) (ds chain : List Nat) (pos : Nat → Option Nat) (lim : Nat → Nat) (tl : Nat → List Nat) : Bool :=
  (l.zipIdx.all fun p => chk l n ds chain pos lim tl p.2 p.1) && chain.all (fun c => decide (c < l.length)) && (chain.zipIdx.all fun p => chain.idxOf? p.1 == some p.2) && ds.all (fun d => l.any fun o => o.dst == some d)

/-- What an operation is to bring. -/
def OpOk (P : Program) (ops : Array Oper) (Q : Exit → Act → World → Prop) (a0 : Act) (ds chain : List Nat) (pos : Nat → Option Nat) (fx : Nat → Value) (lim : Nat → Nat) (tl : Nat → List Nat) (Wd : List Value → World → Prop) (i : Nat) (o : Oper) : Prop :=
  match chain.idxOf? i with
  | none => ∀ (ρ : Operand → Value) us w, (∀ t, ds.contains t = false → ρ (.tmp t) = a0.eval (.tmp t)) → (∀ t ∈ tl i, ρ (.tmp t) = slotVal pos fx us t) → (∀ v, ρ (.const v) = v) → us.length ≤ lim i → Wd us w →
      (execOp ρ o).run P w = .ok (.value (fx (o.dst.getD 0))) w
  | some k => ∀ (a : Act) us w, (∀ t, ds.contains t = false → a.eval (.tmp t) = a0.eval (.tmp t)) → (∀ t ∈ tl i, a.eval (.tmp t) = slotVal pos fx us t) → us.length = k → Wd us w →
      ∀ K : Act → World → Prop, (∀ x w', Wd (us ++ [x]) w' → K (a.put o.dst x) w') → if Region.wanted o (yielded ops a.tmps) = true then Oper.wp P o a w K Q else K (a.put o.dst undef) w
def OpsOk (P : Program) (ops : Array Oper) (Q : Exit → Act → World → Prop) (a0 : Act) (ds chain : List Nat) (pos : Nat → Option Nat) (fx : Nat → Value) (lim : Nat → Nat) (tl : Nat → List Nat) (Wd : List Value → World → Prop) : Nat → List Oper → Prop
  | _, [] => True
  | i, o :: l => OpOk P ops Q a0 ds chain pos fx lim tl Wd i o ∧ OpsOk P ops Q a0 ds chain pos fx lim tl Wd (i + 1) l
theorem OpsOk.get {P : Program} {ops : Array Oper} {Q : Exit → Act → World → Prop} {a0 : Act} {ds chain : List Nat} {pos : Nat → Option Nat} {fx : Nat → Value} {lim : Nat → Nat} {tl : Nat → List Nat} {Wd : List Value → World → Prop} :
    ∀ {l : List Oper} {j i : Nat} {o : Oper}, OpsOk P ops Q a0 ds chain pos fx lim tl Wd j l → l[i]? = some o → OpOk P ops Q a0 ds chain pos fx lim tl Wd (j + i) o
  | [], _, _, _, _, h => by simp at h
  | o :: l, j, 0, _, hs, h => by simp at h; subst h; exact hs.1
  | o :: l, j, i + 1, _, hs, h => by
    have := OpsOk.get (i := i) hs.2 (by simpa using h)
    rw [show j + (i + 1) = j + 1 + i by omega]; exact this

theorem idxOf_some {l : List Nat} {i k : Nat} (h : l.idxOf? i = some k) : l[k]? = some i := by
  induction l generalizing k with
  | nil => simp at h
  | cons x l ih =>
    rw [List.idxOf?_cons] at h
    split at h
    · rename_i hx; simp at hx; injection h with h; subst h; simp [hx]
    · cases hl : l.idxOf? i with
      | none => rw [hl] at h; cases h
      | some m => rw [hl] at h; injection h with h; subst h; simpa using ih hl

theorem region_chain {P : Program} {id : Nat} {Q : Exit → Act → World → Prop} {a0 : Act} {w : World} {l : List Oper} (hm : P.follows .mixedOrders = true) (hac : acycB l = true)
    (ds chain : List Nat) (pos : Nat → Option Nat) (fx : Nat → Value) (lim : Nat → Nat) (tl : Nat → List Nat) (Wd : List Value → World → Prop) (hchk : chkAll l a0.tmps.size ds chain pos lim tl = true)
    (h0 : Wd [] w.drew) (hops : OpsOk P l.toArray Q a0 ds chain pos fx lim tl Wd 0 l)
    (hend : ∀ us w', us.length = chain.length → Wd us w' → Q .normal (over a0 ds (slotVal pos fx us)) w') :
    (Code.region id l.toArray true).wp P Q a0 w := by
  unfold chkAll at hchk
  simp only [Bool.and_eq_true] at hchk
  obtain ⟨⟨⟨hc1, hc2⟩, hc3⟩, hc4⟩ := hchk
  have C : ∀ (i : Nat) (o : Oper), l[i]? = some o → chk l a0.tmps.size ds chain pos lim tl i o = true := fun i o ho => (List.all_eq_true.1 hc1) (o, i) (List.mem_zipIdx_iff_getElem?.2 (by simpa using ho))
  have CI : ∀ (k c : Nat), chain[k]? = some c → chain.idxOf? c = some k := fun k c hk => by
    have := (List.all_eq_true.1 hc3) (c, k) (List.mem_zipIdx_iff_getElem?.2 (by simpa using hk))
    simpa using this
  -- what the check says of one operation
  have G : ∀ (i : Nat) (o : Oper), l[i]? = some o → o.guard = none := fun i o ho => by
    have := C i o ho; unfold chk at this; simp only [Bool.and_eq_true] at this; simpa using this.1.1.1
  have DD : ∀ (i : Nat) (o : Oper) (d : Nat), l[i]? = some o → o.dst = some d → ds.contains d = true ∧ d < a0.tmps.size ∧ pos d = chain.idxOf? i ∧ ∀ (j : Nat) (oj : Oper), l[j]? = some oj → oj.dst = some d → j = i := fun i o d ho hd => by
    have := C i o ho; unfold chk at this; simp only [Bool.and_eq_true, hd] at this
    obtain ⟨⟨⟨_, ⟨⟨⟨h1, h2⟩, h3⟩, h4⟩⟩, _⟩, _⟩ := this
    refine ⟨h1, by simpa using h2, ?_, fun j oj hj hjd => ?_⟩
    · cases hk : chain.idxOf? i with
      | none => rw [hk] at h3; simpa using h3
      | some k => rw [hk] at h3; simpa using h3
    · have h5 := (List.all_eq_true.1 h4) (oj, j) (List.mem_zipIdx_iff_getElem?.2 (by simpa using hj))
      simp [hjd] at h5
      exact h5
  have DN : ∀ (i : Nat) (o : Oper), l[i]? = some o → o.dst = none → chain.idxOf? i ≠ none := fun i o ho hd => by
    have := C i o ho; unfold chk at this; simp only [Bool.and_eq_true, hd] at this
    obtain ⟨⟨⟨_, h1⟩, _⟩, _⟩ := this
    obtain ⟨k, hk⟩ := List.mem_iff_getElem?.1 (by simpa using h1 : i ∈ chain)
    rw [CI k i hk]; simp
  have ORD : ∀ (i : Nat) (o : Oper), l[i]? = some o → (match chain.idxOf? i with
    | some k => k == 0 || (match chain[k - 1]? with | some c => o.after.any fun e => Region.binds .any e && e.on == c | none => false)
    | none => match chain[lim i]? with
      | none => true
      | some c => match l[c]? with | none => false | some oc => oc.after.any fun e => Region.binds .any e && e.on == i) = true := fun i o ho => by
    have := C i o ho; unfold chk at this; simp only [Bool.and_eq_true] at this; exact this.1.2
  have TL : ∀ (i : Nat) (o : Oper), l[i]? = some o → ∀ t ∈ tl i, ∃ e ∈ o.after, Region.binds .any e = true ∧ ∃ oj, l[e.on]? = some oj ∧ oj.dst = some t := fun i o ho t ht => by
    have := C i o ho; unfold chk at this; simp only [Bool.and_eq_true] at this
    have h2 := (List.all_eq_true.1 this.2) t ht
    obtain ⟨e, he, hb⟩ := Array.any_eq_true'.1 h2
    simp only [Bool.and_eq_true] at hb
    refine ⟨e, he, hb.1, ?_⟩
    cases hj : l[e.on]? with
    | none => rw [hj] at hb; simp at hb
    | some oj => rw [hj] at hb; exact ⟨oj, rfl, by simpa using hb.2⟩
  -- the invariant
  refine region_inv hm hac (fun D a w => ∃ us v, a = over a0 ds v ∧ Wd us w ∧ us.length ≤ chain.length ∧ (∀ (k c : Nat), chain[k]? = some c → (D c = true ↔ k < us.length)) ∧
      (∀ (i : Nat) (o : Oper) (d : Nat), l[i]? = some o → o.dst = some d → D i = true → v d = slotVal pos fx us d) ∧ (∀ (i : Nat) (o : Oper), l[i]? = some o → D i = true → ∀ e ∈ o.after, Region.binds .any e = true → D e.on = true)) ?_ ?_ ?_
  · exact ⟨[], _, (over_self a0 ds).symm, h0, Nat.zero_le _, fun k c _ => by simp, fun _ _ _ _ _ h => (by cases h), fun _ _ _ h => (by cases h)⟩
  · have key : ∀ (i : Nat) (o : Oper), l[i]? = some o → OpOk P l.toArray Q a0 ds chain pos fx lim tl Wd i o → StepInv P l.toArray Q (fun D a w => ∃ us v, a = over a0 ds v ∧ Wd us w ∧ us.length ≤ chain.length ∧ (∀ (k c : Nat), chain[k]? = some c → (D c = true ↔ k < us.length)) ∧
        (∀ (i : Nat) (o : Oper) (d : Nat), l[i]? = some o → o.dst = some d → D i = true → v d = slotVal pos fx us d) ∧ (∀ (i : Nat) (o : Oper), l[i]? = some o → D i = true → ∀ e ∈ o.after, Region.binds .any e = true → D e.on = true)) i o := by
      intro i o ho hok D a w ⟨us, v, ha, hW, hlen, hst, hval, hcl⟩ hDi hdep K hK
      have hcl' : ∀ (j : Nat) (oj : Oper), l[j]? = some oj → upd D i j = true → ∀ e ∈ oj.after, Region.binds .any e = true → upd D i e.on = true := by
        intro j oj hj hDj e he hb
        by_cases hji : j = i
        · subst hji
          rw [ho] at hj; injection hj with hj; subst hj
          by_cases h : e.on = j
          · rw [h]; exact upd_self _ _
          · rw [upd_other _ h]; exact hdep e he hb
        · rw [upd_other _ hji] at hDj
          have := hcl j oj hj hDj e he hb
          by_cases h : e.on = i
          · rw [h]; exact upd_self _ _
          · rw [upd_other _ h]; exact this
      have hin : ∀ t ∈ tl i, a.eval (.tmp t) = slotVal pos fx us t := by
        intro t ht
        obtain ⟨e, he, hb, oj, hj, hjd⟩ := TL i o ho t ht
        have hd := DD _ _ _ hj hjd
        rw [ha, over_eval _ _ _ _ hd.1 hd.2.1]
        exact hval _ _ _ hj hjd (hdep e he hb)
      have hout : ∀ t, ds.contains t = false → a.eval (.tmp t) = a0.eval (.tmp t) := fun t ht => by rw [ha]; exact over_eval' _ _ _ _ ht
      have hord := ORD i o ho
      unfold OpOk at hok
      cases hki : chain.idxOf? i with
      | none =>
        rw [hki] at hok hord
        simp only at hok hord
        have hlim : us.length ≤ lim i := by
          cases hc : chain[lim i]? with
          | none => have := List.getElem?_eq_none_iff.1 hc; omega
          | some c =>
            rw [hc] at hord
            simp only at hord
            cases hlc : l[c]? with
            | none => rw [hlc] at hord; cases hord
            | some oc =>
              rw [hlc] at hord
              simp only at hord
              obtain ⟨e, he, hb⟩ := Array.any_eq_true'.1 hord
              simp only [Bool.and_eq_true, beq_iff_eq] at hb
              rcases Nat.lt_or_ge (lim i) us.length with h | h
              · have h1 := (hst _ _ hc).2 h
                have h2 := hcl c oc hlc h1 e he hb.1
                rw [hb.2, hDi] at h2; cases h2
              · exact h
        have hrun := hok a.eval us w hout hin (fun _ => rfl) hlim hW
        have hw : Region.wanted o (yielded l.toArray a.tmps) = true := by simp [Region.wanted, G i o ho]
        rw [if_pos hw]
        simp only [Oper.wp, hrun, Oper.upon]
        cases hd : o.dst with
        | none => exact absurd hki (DN i o ho hd)
        | some d =>
          obtain ⟨d1, d2, d3, d4⟩ := DD i o d ho hd
          refine hK _ _ ⟨us, fun t => if t = d then fx d else v t, by rw [ha]; exact over_put _ _ _ _ _ d1, hW, hlen, fun k c hkc => ?_, fun j oj d' hj hjd hDj => ?_, hcl'⟩
          · have : c ≠ i := fun h => by subst h; rw [CI k c hkc] at hki; cases hki
            rw [upd_other _ this]; exact hst k c hkc
          · by_cases hdd : d' = d
            · subst hdd
              simp only [if_true]
              unfold slotVal
              rw [d3, hki]
            · have hji : j ≠ i := fun h => by subst h; rw [ho] at hj; injection hj with hj; subst hj; rw [hd] at hjd; injection hjd with hjd; exact hdd hjd.symm
              simp only [if_neg hdd]
              rw [upd_other _ hji] at hDj
              exact hval j oj d' hj hjd hDj
      | some k =>
        rw [hki] at hok hord
        simp only at hok hord
        have hck := idxOf_some hki
        have hk1 : us.length ≤ k := by
          rcases Nat.lt_or_ge k us.length with h | h
          · have := (hst k i hck).2 h
            rw [hDi] at this; cases this
          · exact h
        have hk2 : k ≤ us.length := by
          rcases Nat.eq_zero_or_pos k with h | h
          · omega
          · have hne : (k == 0) = false := by simp; omega
            rw [hne, Bool.false_or] at hord
            cases hc : chain[k - 1]? with
            | none => rw [hc] at hord; cases hord
            | some c =>
              rw [hc] at hord
              simp only at hord
              obtain ⟨e, he, hb⟩ := Array.any_eq_true'.1 hord
              simp only [Bool.and_eq_true, beq_iff_eq] at hb
              have h1 := hdep e he hb.1
              rw [hb.2] at h1
              have := (hst _ _ hc).1 h1
              omega
        have hk : us.length = k := by omega
        have hklt : k < chain.length := (List.getElem?_eq_some_iff.1 hck).1
        refine hok a us w hout hin hk hW K (fun x w' hW' => hK _ _ ?_)
        have hst' : ∀ (k' c : Nat), chain[k']? = some c → (upd D i c = true ↔ k' < (us ++ [x]).length) := fun k' c hkc => by
          rw [List.length_append, List.length_singleton]
          by_cases hci : c = i
          · subst hci
            have := (CI k' c hkc).symm.trans hki
            injection this with this
            rw [upd_self]
            simp; omega
          · rw [upd_other _ hci, hst k' c hkc]
            have : k' ≠ k := fun h => by subst h; rw [hck] at hkc; injection hkc with hkc; exact hci hkc.symm
            omega
        have hstab : ∀ (j : Nat) (oj : Oper) (d' : Nat), l[j]? = some oj → oj.dst = some d' → D j = true → slotVal pos fx (us ++ [x]) d' = slotVal pos fx us d' := by
          intro j oj d' hj hjd hDj
          obtain ⟨_, _, e3, _⟩ := DD j oj d' hj hjd
          unfold slotVal
          rw [e3]
          cases hkj : chain.idxOf? j with
          | none => rfl
          | some k' =>
            have := (hst k' j (idxOf_some hkj)).1 hDj
            simp only
            rw [List.getD_eq_getElem?_getD, List.getD_eq_getElem?_getD, List.getElem?_append_left this]
        cases hd : o.dst with
        | none =>
          refine ⟨us ++ [x], v, ha, hW', by simp; omega, hst', fun j oj d' hj hjd hDj => ?_, hcl'⟩
          have hji : j ≠ i := fun h => by subst h; rw [ho] at hj; injection hj with hj; subst hj; rw [hd] at hjd; cases hjd
          rw [upd_other _ hji] at hDj
          rw [hstab j oj d' hj hjd hDj]
          exact hval j oj d' hj hjd hDj
        | some d =>
          obtain ⟨d1, d2, d3, d4⟩ := DD i o d ho hd
          refine ⟨us ++ [x], fun t => if t = d then x else v t, by rw [ha]; exact over_put _ _ _ _ _ d1, hW', by simp; omega, hst', fun j oj d' hj hjd hDj => ?_, hcl'⟩
          by_cases hdd : d' = d
          · subst hdd
            simp only [if_true]
            unfold slotVal
            rw [d3, hki]
            simp only
            rw [List.getD_eq_getElem?_getD, List.getElem?_append_right (by omega), hk, Nat.sub_self]
            rfl
          · have hji : j ≠ i := fun h => by subst h; rw [ho] at hj; injection hj with hj; subst hj; rw [hd] at hjd; injection hjd with hjd; exact hdd hjd.symm
            simp only [if_neg hdd]
            rw [upd_other _ hji] at hDj
            rw [hstab j oj d' hj hjd hDj]
            exact hval j oj d' hj hjd hDj
    have all : ∀ (I : (Nat → Bool) → Act → World → Prop) (key : ∀ (i : Nat) (o : Oper), l[i]? = some o → OpOk P l.toArray Q a0 ds chain pos fx lim tl Wd i o → StepInv P l.toArray Q I i o) (m : List Oper) (j : Nat), (∀ (i : Nat) (o : Oper), m[i]? = some o → l[j + i]? = some o) → OpsOk P l.toArray Q a0 ds chain pos fx lim tl Wd j m → StepsInv P l.toArray Q I j m := by
      intro I key m
      induction m with
      | nil => intro j _ _; trivial
      | cons o m ih =>
        intro j hm' hok
        refine ⟨key j o (by simpa using hm' 0 o rfl) hok.1, ih (j + 1) (fun i o' h => ?_) hok.2⟩
        have := hm' (i + 1) o' (by simpa using h)
        rw [show j + 1 + i = j + (i + 1) by omega]; exact this
    exact all _ key l 0 (fun i o h => by simpa using h) hops
  · intro D a w ⟨us, v, ha, hW, hlen, hst, hval, _⟩ hall
    have hfull : us.length = chain.length := by
      rcases Nat.lt_or_ge us.length chain.length with h | h
      · have hc : chain[us.length]? = some chain[us.length] := List.getElem?_eq_getElem h
        have hlt : chain[us.length] < l.length := by simpa using (List.all_eq_true.1 hc2) _ (List.getElem_mem h)
        have := (hst _ _ hc).1 (hall _ hlt)
        omega
      · omega
    have : a = over a0 ds (slotVal pos fx us) := by
      rw [ha]
      refine over_congr _ _ _ _ (fun t ht => ?_)
      have h1 := (List.all_eq_true.1 hc4) t (by simpa using ht)
      obtain ⟨o, hom, hod⟩ := List.any_eq_true.1 h1
      obtain ⟨j, hj⟩ := List.mem_iff_getElem?.1 hom
      exact hval j o t hj (by simpa using hod) (hall j (List.getElem?_eq_some_iff.1 hj).1)
    rw [this]
    exact hend us w hfull hW

def putAll (a : Act) (ps : List (Nat × Value)) : Act := ps.foldl (fun a p => a.put (some p.1) p.2) a
theorem over_putAll (a : Act) (ds : List Nat) (v : Nat → Value) : over a ds v = putAll a (ds.map fun d => (d, v d)) := by
  have : ∀ (ds : List Nat) (a : Act), (putAll a (ds.map fun d => (d, v d))).defers = a.defers ∧ ∀ t : Nat, (putAll a (ds.map fun d => (d, v d))).tmps[t]? = (a.tmps[t]?).map (fun u => if ds.contains t then v t else u) := by
    intro ds
    induction ds with
    | nil => intro a; exact ⟨rfl, fun t => by simp [putAll]⟩
    | cons d ds ih =>
      intro a
      obtain ⟨h1, h2⟩ := ih (a.put (some d) (v d))
      refine ⟨h1, fun t => ?_⟩
      refine (h2 t).trans ?_
      show (((a.tmps.setIfInBounds d (v d))[t]?).map _) = _
      by_cases ht : t = d
      · subst ht
        rw [Array.getElem?_setIfInBounds_self]
        by_cases hs : t < a.tmps.size
        · rw [if_pos hs, Array.getElem?_eq_getElem hs]; simp
        · rw [if_neg hs, Array.getElem?_eq_none (by omega)]; rfl
      · rw [Array.getElem?_setIfInBounds_ne (Ne.symm ht)]
        cases a.tmps[t]? with
        | none => rfl
        | some u => simp [ht]
  exact act_ext (fun t => by rw [over_get, (this ds a).2 t]) (this ds a).1.symm

theorem OpOk.rd {P : Program} {ops : Array Oper} {Q : Exit → Act → World → Prop} {a0 : Act} {ds chain : List Nat} {pos : Nat → Option Nat} {fx : Nat → Value} {lim : Nat → Nat} {tl : Nat → List Nat} {Wd : List Value → World → Prop} {i : Nat} {o : Oper}
    (hi : chain.idxOf? i = none) (v : Value) (hv : fx (o.dst.getD 0) = v)
    (h : ∀ (ρ : Operand → Value) us w, (∀ t, ds.contains t = false → ρ (.tmp t) = a0.eval (.tmp t)) → (∀ t ∈ tl i, ρ (.tmp t) = slotVal pos fx us t) → (∀ v, ρ (.const v) = v) → us.length ≤ lim i → Wd us w → (execOp ρ o).run P w = .ok (.value v) w) :
    OpOk P ops Q a0 ds chain pos fx lim tl Wd i o := by
  unfold OpOk
  rw [hi]
  simp only [hv]
  exact h
theorem OpOk.wr {P : Program} {ops : Array Oper} {Q : Exit → Act → World → Prop} {a0 : Act} {ds chain : List Nat} {pos : Nat → Option Nat} {fx : Nat → Value} {lim : Nat → Nat} {tl : Nat → List Nat} {Wd : List Value → World → Prop} {i : Nat} {o : Oper} {k : Nat}
    (hi : chain.idxOf? i = some k)
    (h : ∀ (a : Act) us w, (∀ t, ds.contains t = false → a.eval (.tmp t) = a0.eval (.tmp t)) → (∀ t ∈ tl i, a.eval (.tmp t) = slotVal pos fx us t) → us.length = k → Wd us w →
      ∀ K : Act → World → Prop, (∀ x w', Wd (us ++ [x]) w' → K (a.put o.dst x) w') → if Region.wanted o (yielded ops a.tmps) = true then Oper.wp P o a w K Q else K (a.put o.dst undef) w) :
    OpOk P ops Q a0 ds chain pos fx lim tl Wd i o := by
  unfold OpOk
  rw [hi]
  exact h

/-- 'region_chain' with its tables as lists. 'n': how many slots the frame has. -/
theorem region_row {P : Program} {id : Nat} {Q : Exit → Act → World → Prop} {a0 : Act} {w : World} {l : List Oper} (hm : P.follows .mixedOrders = true) (hac : acycB l = true) (n : Nat) (hn : a0.tmps.size = n)
    (ds chain : List Nat) (pos : List (Nat × Nat)) (fx : List (Nat × Value)) (lim : Nat → Nat) (tl : List (List Nat)) (Wd : List Value → World → Prop) (hchk : chkAll l n ds chain (fun t => pos.lookup t) lim (fun i => tl.getD i []) = true)
    (h0 : Wd [] w.drew) (hops : OpsOk P l.toArray Q a0 ds chain (fun t => pos.lookup t) (fun t => (fx.lookup t).getD undef) lim (fun i => tl.getD i []) Wd 0 l)
    (hend : ∀ us w', us.length = chain.length → Wd us w' → Q .normal (putAll a0 (ds.map fun d => (d, slotVal (fun t => pos.lookup t) (fun t => (fx.lookup t).getD undef) us d))) w') :
    (Code.region id l.toArray true).wp P Q a0 w := by
  subst hn
  exact region_chain hm hac ds chain _ _ lim _ Wd hchk h0 hops (fun us w' h hW => by rw [over_putAll]; exact hend us w' h hW)
end Go.Silo
