/- Words and laws that the proof of this claim rests on: an abstract machine over typed pure values, its soundness over the model, and plain laws. -/
import Derived.Test.YtagcgafddchobaaSE0
set_option linter.unusedVariables false
set_option linter.unusedSimpArgs false
section
namespace Go.AM
open Go.RowKit
set_option linter.unusedVariables false

structure Sub (E S : St) : Prop where
  slot : ∀ i s, E.slot i = some s → S.slot i = some s
  get : ∀ k o, E.get k = some o → S.get k = some o
  sl : S.sl.length = E.sl.length
  ob : S.ob.length = E.ob.length
/-- S' is S with what E' has at d -/
structure Add (S : St) (d : Nat) (E' S' : St) : Prop where
  slot : ∀ i, S'.slot i = if i = d then E'.slot d else S.slot i
  get : ∀ k : Key, S'.get k = if k.1 = d then E'.get k else S.get k
  sl : S'.sl.length = S.sl.length
  ob : S'.ob.length = S.ob.length
def St.bare (st : St) (d : Nat) : Prop := st.ob.getD d [] = []
theorem bare_get {st : St} {d : Nat} (h : st.bare d) (k : Key) (hk : k.1 = d) : st.get k = none := by
  unfold St.get; rw [hk, show st.ob.getD d [] = [] from h]; rfl
theorem killRow_bare_get {st : St} {d : Nat} (h : st.bare d) (k : Key) : (st.killRow d).get k = st.get k := by
  unfold St.killRow St.rowKeys
  rw [show st.ob.getD d [] = [] from h]
  show (st.setRow d []).get k = _
  rw [get_setRow]
  split
  · rename_i e; rw [bare_get h k e.1.symm]; rfl
  · rfl
theorem killRow_bare_slot {st : St} {d : Nat} (h : st.bare d) (i : Nat) : (st.killRow d).slot i = st.slot i := by
  unfold St.killRow St.rowKeys
  rw [show st.ob.getD d [] = [] from h]; rfl
theorem killRow_sl (st : St) (d : Nat) : (st.killRow d).sl.length = st.sl.length := by
  unfold St.killRow St.setRow
  show (st.kills _).sl.length = _
  have : ∀ (ks : List Key) (s : St), (s.kills ks).sl.length = s.sl.length := by
    intro ks
    induction ks with
    | nil => intro s; rfl
    | cons k ks ih => intro s; exact (ih _).trans (kill_sl s k)
  exact this _ _
theorem killRow_ob (st : St) (d : Nat) : (st.killRow d).ob.length = st.ob.length := by
  unfold St.killRow St.setRow
  simp only [List.length_set]
  exact kills_len _ _

section
variable {Γ : Tys} {E S : St} {d : Nat}
theorem Sub.killRow (h : Sub E S) (hE : E.bare d) (hS : S.bare d) : Sub (E.killRow d) (S.killRow d) :=
  ⟨fun i s hs => by rw [killRow_bare_slot hE] at hs; rw [killRow_bare_slot hS]; exact h.slot i s hs,
   fun k o hk => by rw [killRow_bare_get hE] at hk; rw [killRow_bare_get hS]; exact h.get k o hk,
   by rw [killRow_sl, killRow_sl]; exact h.sl, by rw [killRow_ob, killRow_ob]; exact h.ob⟩
theorem Sub.opd (h : Sub E S) {ty : TypeId} {x : Operand} {s : Slot} (hs : E.opd Γ ty x = some s) : S.opd Γ ty x = some s := by
  unfold St.opd at hs ⊢
  split at hs
  · exact h.slot _ _ hs
  · exact hs
  · exact hs
  · cases hs
theorem Sub.pureL (h : Sub E S) {l : Leaf} {p : PL} (hp : E.pureL l = some p) : S.pureL l = some p := by
  unfold St.pureL at hp ⊢
  split at hp
  · exact hp
  · split at hp
    · rename_i hk; simp only [h.get _ _ hk]; exact hp
    · cases hp
  · split at hp
    · rename_i hk; simp only [h.get _ _ hk]; exact hp
    · cases hp
  · exact hp
  · cases hp
theorem Sub.pureLs (h : Sub E S) : ∀ (ls : List Leaf) (ps : List PL), E.pureLs ls = some ps → S.pureLs ls = some ps
  | [], _, hp => hp
  | l :: ls, ps, hp => by
    simp only [St.pureLs, Option.bind_eq_some_iff] at hp ⊢
    obtain ⟨p, h1, ps', h2, e⟩ := hp
    exact ⟨p, h.pureL h1, ps', h.pureLs ls ps' h2, e⟩
theorem Sub.pureS (h : Sub E S) {ty : TypeId} {x : Operand} {p : PL} (hp : E.pureS Γ ty x = some p) : S.pureS Γ ty x = some p := by
  unfold St.pureS at hp ⊢
  split at hp
  · rename_i l hl; rw [h.opd hl]; exact h.pureL hp
  · cases hp
theorem Sub.opI (h : Sub E S) {x : Operand} {n : Int} (hn : E.opI Γ x = some n) : S.opI Γ x = some n := by
  unfold St.opI at hn ⊢
  split at hn
  · rename_i hl; rw [h.opd hl]; exact hn
  · cases hn
theorem Sub.opB (h : Sub E S) {x : Operand} {b : Bool} (hn : E.opB Γ x = some b) : S.opB Γ x = some b := by
  unfold St.opB at hn ⊢
  split at hn
  · rename_i hl; rw [h.opd hl]; exact hn
  · cases hn
theorem Sub.lenL (h : Sub E S) {l : Leaf} {n : Nat} (hn : E.lenL l = some n) : S.lenL l = some n := by
  unfold St.lenL at hn ⊢
  split at hn
  · exact hn
  · split at hn
    · rename_i hk; simp only [h.get _ _ hk]; exact hn
    · cases hn
  · exact hn
  · exact hn
  · cases hn
theorem Sub.elemL (h : Sub E S) {sz : Nat} {i : Int} {l l' : Leaf} (hn : E.elemL sz i l = some l') : S.elemL sz i l = some l' := by
  unfold St.elemL at hn ⊢
  split at hn
  · split at hn
    · rename_i hk; simp only [h.get _ _ hk]; exact hn
    · cases hn
  · split at hn
    · rename_i hk; simp only [h.get _ _ hk]; exact hn
    · cases hn
  · exact hn
  · cases hn
theorem Sub.leavesAt (h : Sub E S) {l : Leaf} {ls : List Leaf} (hn : E.leavesAt l = some ls) : S.leavesAt l = some ls := by
  unfold St.leavesAt at hn ⊢
  split at hn
  · split at hn
    · rename_i hk; simp only [h.get _ _ hk]; exact hn
    · cases hn
  · split at hn
    · rename_i hk; simp only [h.get _ _ hk]; exact hn
    · cases hn
  · exact hn
  · cases hn
theorem Sub.parts (h : Sub E S) : ∀ (xs : List (Nat × Operand)) (ty : Nat → TypeId) (ps : List (Nat × List Leaf)), E.parts Γ xs ty = some ps → S.parts Γ xs ty = some ps
  | [], _, _, hp => hp
  | (i, x) :: xs, ty, ps, hp => by
    simp only [St.parts] at hp ⊢
    split at hp
    · rename_i c hc
      rw [h.opd hc]
      obtain ⟨q, hq, e⟩ := Option.map_eq_some_iff.1 hp
      exact Option.map_eq_some_iff.2 ⟨q, h.parts xs ty q hq, e⟩
    · cases hp
theorem Sub.capsOf (h : Sub E S) : ∀ (ks : List Key) (y : List (List PL) × List Key), E.capsOf ks = some y → S.capsOf ks = some y
  | [], _, hy => hy
  | k :: ks, y, hy => by
    unfold St.capsOf at hy ⊢
    split at hy
    · rename_i ls hk
      simp only [h.get _ _ hk]
      simp only [Option.bind_eq_some_iff, Option.map_eq_some_iff] at hy ⊢
      obtain ⟨ps, h1, z, h2, e⟩ := hy
      exact ⟨ps, h.pureLs _ _ h1, z, h.capsOf ks z h2, e⟩
    · cases hy
theorem Sub.argL (h : Sub E S) {m : PM} {e : TypeId} {l : Leaf} {x : PL × List Key × List Key} (hx : E.argL m e l = some x) : S.argL m e l = some x := by
  unfold St.argL at hx ⊢
  split at hx
  · obtain ⟨p, hp, e1⟩ := Option.map_eq_some_iff.1 hx
    exact Option.map_eq_some_iff.2 ⟨p, h.pureL hp, e1⟩
  · split at hx
    · rename_i hk; simp only [h.get _ _ hk]; exact hx
    · cases hx
  · cases hx
theorem Sub.argLs (h : Sub E S) : ∀ (md : List PM) (es : List TypeId) (ls : List Leaf) (y : List PL × List Key × List Key), E.argLs md es ls = some y → S.argLs md es ls = some y
  | _, _, [], _, hy => hy
  | md, es, l :: ls, y, hy => by
    simp only [St.argLs, Option.bind_eq_some_iff, Option.map_eq_some_iff] at hy ⊢
    obtain ⟨x, h1, z, h2, e⟩ := hy
    exact ⟨x, h.argL h1, z, h.argLs _ _ ls z h2, e⟩
theorem Sub.argC (h : Sub E S) {par : Par} {ty : TypeId} {x : Operand} {y : PA × List Key × List Key} (hy : E.argC Γ par ty x = some y) : S.argC Γ par ty x = some y := by
  unfold St.argC at hy ⊢
  split at hy
  · rename_i l hk hl
    rw [hk, h.opd hl]
    obtain ⟨q, hq, e⟩ := Option.map_eq_some_iff.1 hy
    exact Option.map_eq_some_iff.2 ⟨q, h.argLs _ _ _ q hq, e⟩
  · rename_i ls hk hl
    rw [hk, h.opd hl]
    obtain ⟨q, hq, e⟩ := Option.map_eq_some_iff.1 hy
    exact Option.map_eq_some_iff.2 ⟨q, h.argLs _ _ _ q hq, e⟩
  · rename_i ps hk hl; rw [hk, h.opd hl]; exact hy
  · rename_i f caps hk hl; rw [hk, h.opd hl]; exact hy
  · rename_i f cap hk hl
    rw [hk, h.opd hl]
    obtain ⟨q, hq, e⟩ := Option.map_eq_some_iff.1 hy
    exact Option.map_eq_some_iff.2 ⟨q, h.capsOf _ q hq, e⟩
  · cases hy
theorem Sub.args (h : Sub E S) : ∀ (pars : List Par) (xs : List Operand) (ts : List TypeId) (y : List PA × List Key × List Key), E.args Γ pars xs ts = some y → S.args Γ pars xs ts = some y
  | [], [], _, _, hy => hy
  | [], _ :: _, _, y, hy => by simp [St.args] at hy
  | _ :: _, [], _, y, hy => by simp [St.args] at hy
  | par :: pars, x :: xs, ts, y, hy => by
    simp only [St.args, Option.bind_eq_some_iff, Option.map_eq_some_iff] at hy ⊢
    obtain ⟨p, h1, z, h2, e⟩ := hy
    exact ⟨p, h.argC h1, z, h.args pars xs ts.tail z h2, e⟩
theorem Sub.callee (h : Sub E S) {ce : Callee} {f : FuncId × List (List PL) × List Key} (hf : E.callee Γ ce = some f) : S.callee Γ ce = some f := by
  unfold St.callee at hf ⊢
  split at hf
  · split at hf
    · rename_i hl; rw [h.opd hl]; exact hf
    · rename_i hl
      rw [h.opd hl]
      obtain ⟨q, hq, e⟩ := Option.map_eq_some_iff.1 hf
      exact Option.map_eq_some_iff.2 ⟨q, h.capsOf _ q hq, e⟩
    · cases hf
  · cases hf
theorem Sub.capKeys (h : Sub E S) : ∀ (xs : List Operand) (ks : List Key), E.capKeys Γ xs = some ks → S.capKeys Γ xs = some ks
  | [], _, hk => hk
  | x :: xs, ks, hk => by
    unfold St.capKeys at hk ⊢
    split at hk
    · rename_i hl
      rw [h.opd hl]
      obtain ⟨q, hq, e⟩ := Option.map_eq_some_iff.1 hk
      exact Option.map_eq_some_iff.2 ⟨q, h.capKeys xs q hq, e⟩
    · cases hk

/-! ### the shapes of a step -/
theorem add_put (h : Sub E S) (hE : E.bare d) (hS : S.bare d) (s : Slot) : Add S d (E.putS (some d) (some s)) (S.putS (some d) (some s)) := by
  refine ⟨fun i => ?_, fun k => ?_, by simp [St.putS], by simp [St.putS]⟩
  · rw [slot_putS, slot_putS]
    by_cases e : i = d
    · subst e
      rw [if_pos rfl]
      by_cases hl : i < S.sl.length
      · rw [if_pos ⟨rfl, hl⟩, if_pos ⟨rfl, by rw [← h.sl]; exact hl⟩]
      · rw [if_neg (fun hh => hl hh.2), if_neg (fun hh => hl (by rw [h.sl]; exact hh.2))]
        unfold St.slot
        rw [List.getD_eq_getElem?_getD, List.getElem?_eq_none (by omega), List.getD_eq_getElem?_getD, List.getElem?_eq_none (by rw [← h.sl]; omega)]
    · rw [if_neg e, if_neg (fun hh => e hh.1.symm)]
  · rw [get_putS, get_putS]
    split
    · rename_i e; rw [bare_get hE k e, bare_get hS k e]
    · rfl
theorem add_row (h : Sub E S) (hE : E.bare d) (hS : S.bare d) (hd : d < E.ob.length) (os : List (Option Ob)) (s : Slot) : Add S d (((E.killRow d).setRow d os).putS (some d) (some s)) (((S.killRow d).setRow d os).putS (some d) (some s)) := by
  have hdE : d < (E.killRow d).ob.length := by rw [killRow_ob]; exact hd
  have hdS : d < (S.killRow d).ob.length := by rw [killRow_ob, h.ob]; exact hd
  refine ⟨fun i => ?_, fun k => ?_, ?_, ?_⟩
  · rw [slot_putS, slot_putS]
    simp only [slot_setRow, killRow_bare_slot hE, killRow_bare_slot hS]
    have e1 : ((E.killRow d).setRow d os).sl.length = E.sl.length := killRow_sl E d
    have e2 : ((S.killRow d).setRow d os).sl.length = S.sl.length := killRow_sl S d
    rw [e1, e2]
    by_cases e : i = d
    · subst e
      rw [if_pos rfl]
      by_cases hl : i < S.sl.length
      · rw [if_pos ⟨by trivial, hl⟩, if_pos ⟨by trivial, by rw [← h.sl]; exact hl⟩]
      · rw [if_neg (fun hh => hl hh.2), if_neg (fun hh => hl (by rw [h.sl]; exact hh.2))]
        unfold St.slot
        rw [List.getD_eq_getElem?_getD, List.getElem?_eq_none (by omega), List.getD_eq_getElem?_getD, List.getElem?_eq_none (by rw [← h.sl]; omega)]
    · rw [if_neg e, if_neg (fun hh => e hh.1.symm)]
  · rw [get_putS, get_putS, get_setRow, get_setRow]
    by_cases e : k.1 = d
    · rw [if_pos e, if_pos ⟨e.symm, hdS⟩, if_pos ⟨e.symm, hdE⟩]
    · rw [if_neg e, if_neg (fun hh => e hh.1.symm)]; exact killRow_bare_get hS k
  · show (List.set _ _ _).length = _
    rw [List.length_set]
    exact killRow_sl S d
  · show (List.set _ _ _).length = _
    rw [List.length_set]; exact killRow_ob S d
/-- what is asked of a step -/
def Mono (E S : St) (d : Nat) (f : St → Option St) : Prop := ∀ E', f E = some E' → ∃ S', f S = some S' ∧ Add S d E' S'
theorem mono_map {α : Type} (h : Sub E S) (hE : E.bare d) (hS : S.bare d) {f : St → Option α} {g : α → Slot} (hf : ∀ x, f E = some x → f S = some x) : Mono E S d fun st => (f st).map fun x => st.putS (some d) (some (g x)) := by
  intro E' he
  obtain ⟨x, hx, rfl⟩ := Option.map_eq_some_iff.1 he
  exact ⟨_, Option.map_eq_some_iff.2 ⟨x, hf x hx, rfl⟩, add_put h hE hS _⟩
end
end Go.AM
end
section
namespace Go.AM
open Go.RowKit
set_option linter.unusedVariables false

def St.callD (Γ : Tys) (G : FuncId → Option Sig) (C : FuncId → Fn) (st : St) (dst : Option Tmp) (d : Nat) (c : Call) : Option St :=
  let st0 := st.killRow d
  (st0.callee Γ c.callee).bind fun f =>
  (G f.1).bind fun sig =>
  (st0.args Γ (sig.par.take c.args.size) c.args.toList c.argTypes.toList).bind fun a =>
  if d < st0.ob.length ∧ (sig.par.drop c.args.size).all isPtr = true ∧ (sig.par.drop c.args.size).length = f.2.1.length ∧ a.2.2.isEmpty = true then
    (C f.1 (a.1 ++ f.2.1.map .pls)).bind fun outs =>
    (retCs d sig.res outs 0).bind fun x =>
    if aliasCs sig.res outs = true then
      (if (f.2.2 ++ a.2.1).isEmpty = true then some ((st0.setRow d x.2).putS dst (some (retS x.1))) else none)
    else some ((st0.setRow d x.2).putS dst (some (retS x.1)))
  else none
theorem callD_call {Γ : Tys} {G : FuncId → Option Sig} {C : FuncId → Fn} {st st' : St} {dst : Option Tmp} {d : Nat} {c : Call} (h : st.callD Γ G C dst d c = some st') : st.call Γ G C dst d c = some st' := by
  unfold St.callD at h
  simp only [Option.bind_eq_some_iff] at h
  obtain ⟨f, hf, sig, hG, y, hy, h⟩ := h
  split at h
  case isFalse => cases h
  rename_i hc
  simp only [Option.bind_eq_some_iff] at h
  obtain ⟨outs, ho, x, hx, h⟩ := h
  unfold St.call
  simp only [Option.bind_eq_some_iff]
  have hnil : y.2.2 = [] := List.isEmpty_iff.mp hc.2.2.2
  refine ⟨f, hf, sig, hG, y, hy, ?_⟩
  rw [if_pos ⟨hc.1, hc.2.1, hc.2.2.1, by rw [hnil]; exact List.nodup_nil, by rw [hnil]; intro k hk; cases hk⟩]
  simp only [Option.bind_eq_some_iff]
  refine ⟨outs, ho, x, hx, ?_⟩
  rw [hnil]
  split at h
  · rename_i hal
    rw [if_pos hal]
    split at h
    · rename_i he
      have he' : f.2.2 ++ y.2.1 = [] := List.isEmpty_iff.mp he
      rw [he']
      exact h
    · cases h
  · rename_i hal
    rw [if_neg hal]; exact h
def St.buildSliceD (Γ : Tys) (st : St) (dst : Option Tmp) (t : TypeId) (len : Nat) (parts : Array (Nat × Operand)) : Option St :=
  dst.bind fun d => (Γ.elem t).bind fun p => if (((st.killRow d).partLs Γ p.1 parts.toList).flatMap Leaf.keys).isEmpty = true then st.buildSlice Γ (some d) t len parts else none
def St.callBD (Γ : Tys) (st : St) (d : Tmp) (b : Builtin) (xs : List Operand) (ts : List TypeId) : Option St :=
  match b, xs, ts with
  | .len, [x], ty :: _ => st.len Γ (some d) ty x
  | .append, [x, y], [t, t'] => if t = t' then (if st.isEmp Γ t x = true then st.appendNil Γ (some d) t y else none) else none
  | _, _, _ => none
def St.assignD (Γ : Tys) (st : St) (d : Tmp) (ty : TypeId) (x : Operand) : Option St :=
  match isNil x with
  | true => none
  | false => match st.opd Γ ty x with
    | some (.val (.one (.imm p))) => some (st.putS (some d) (some (oneS (.imm p))))
    | _ => none
theorem mono_assignD {Γ : Tys} {E S : St} {d : Nat} (h : Sub E S) (hE : E.bare d) (hS : S.bare d) (ty : TypeId) (x : Operand) : Mono E S d fun st => st.assignD Γ d ty x := by
  intro E' he
  dsimp only at he ⊢
  unfold St.assignD at he ⊢
  split at he
  · cases he
  · split at he
    · rename_i hl
      injection he with he; subst he
      exact ⟨_, by rw [h.opd hl], add_put h hE hS _⟩
    · cases he
theorem assignD_assign {Γ : Tys} {d : Tmp} {home : Nat → Bool} {st st' : St} {ty : TypeId} {x : Operand} (h : st.assignD Γ d ty x = some st') : st.assign home Γ (some d) ty x = some st' := by
  unfold St.assignD at h
  unfold St.assign
  split at h
  · cases h
  · rename_i hn
    rw [if_neg (by rw [hn]; simp)]
    split at h
    · rename_i hl
      injection h with h; subst h
      rw [hl]
      simp only
      unfold St.move
      rw [hl]; rfl
    · cases h
def St.stepD (c : Ctx) (st : St) (o : Oper) : Option St :=
  match o.dst with
  | none => none
  | some d => match o.op with
    | .move x => st.move c.Γ (some d) o.type x
    | .assign x => st.assignD c.Γ d o.type x
    | .pick b x y => st.pick c.Γ (some d) o.type b x y
    | .alloc t => st.alloc c.Γ (some d) t
    | .box t x => st.box c.Γ (some d) t x
    | .build t ps => st.build c.Γ (some d) t ps
    | .buildSlice t n ps => if n = 0 then st.buildEmp c.Γ (some d) t ps else st.buildSliceD c.Γ (some d) t n ps
    | .load t x => st.load c.Γ (some d) t x
    | .nilCheck x => st.nilCheck c.Γ (some d) o.type x
    | .binOp op ty x y _ => st.binOp c.Γ (some d) op ty x y
    | .unOp op ty x => st.unOp c.Γ (some d) op ty x
    | .convert s t x => st.conv c.Γ (some d) s t x
    | .fieldAddr s x f => st.fieldAddr c.Γ (some d) s x f
    | .field s x f => st.field c.Γ (some d) s x f
    | .indexAddr t x i => st.indexAddr c.Γ (some d) t x i
    | .index t x i => st.index c.Γ (some d) t x i
    | .extract x i => st.extract c.Γ (some d) x i
    | .call cl => match cl.callee with
      | .builtin b => st.callBD c.Γ d b cl.args.toList cl.argTypes.toList
      | .value _ => st.callD c.Γ c.G c.C (some d) d cl
      | _ => none
    | _ => none
theorem stepD_step {c : Ctx} {st st' : St} {o : Oper} (h : st.stepD c o = some st') : st.step c o = some st' := by
  unfold St.stepD at h
  split at h
  case h_1 => cases h
  rename_i d hd
  unfold St.step
  cases ho : o.op <;> rw [ho] at h <;> simp only [hd] at h ⊢
  all_goals first | (with_reducible exact h) | (cases h; done) | (exact assignD_assign h) | skip
  · unfold St.buildSl
    split at h
    · rename_i h0; rw [if_pos h0]; exact h
    · rename_i h0
      rw [if_neg h0]
      unfold St.buildSliceD at h
      simp only [Option.bind_eq_some_iff] at h
      obtain ⟨d', hd', p, hp, h⟩ := h
      injection hd' with hd'; subst hd'
      split at h
      · exact h
      · cases h
  · split at h
    · rename_i b hb
      simp only [hb]
      unfold St.callBD at h
      unfold St.callB
      split at h
      · rename_i h1 h2
        rw [h1, h2]; exact h
      · rename_i t t' h1 h2
        rw [h1, h2]
        dsimp only
        split at h
        · rename_i e
          rw [if_pos e]
          split at h
          · rename_i hn; rw [if_pos hn]; exact h
          · cases h
        · cases h
      · cases h
    · rename_i x hx
      simp only [hx]
      exact callD_call h
    · cases h

section
variable {Γ : Tys} {E S : St} {d : Nat}
theorem mono_move (h : Sub E S) (hE : E.bare d) (hS : S.bare d) (ty : TypeId) (x : Operand) : Mono E S d fun st => st.move Γ (some d) ty x :=
  mono_map h hE hS (g := fun s => s) fun s hs => h.opd hs
theorem mono_pick (h : Sub E S) (hE : E.bare d) (hS : S.bare d) (ty : TypeId) (b x y : Operand) : Mono E S d fun st => st.pick Γ (some d) ty b x y := by
  intro E' he
  dsimp only at he ⊢
  unfold St.pick at he ⊢
  simp only [Option.bind_eq_some_iff, Option.map_eq_some_iff] at he ⊢
  obtain ⟨v, hv, s, hs, rfl⟩ := he
  refine ⟨_, ⟨v, h.opB hv, s, ?_, rfl⟩, add_put h hE hS s⟩
  cases v with
  | true => exact h.opd hs
  | false => exact h.opd hs
theorem mono_extract (h : Sub E S) (hE : E.bare d) (hS : S.bare d) (x : Operand) (i : Nat) : Mono E S d fun st => st.extract Γ (some d) x i := by
  intro E' he
  dsimp only at he ⊢
  unfold St.extract at he ⊢
  split at he
  · rename_i cs hl
    rw [h.opd hl]
    obtain ⟨cm, hc, rfl⟩ := Option.map_eq_some_iff.1 he
    exact ⟨_, Option.map_eq_some_iff.2 ⟨cm, hc, rfl⟩, add_put h hE hS _⟩
  · cases he
theorem mono_len (h : Sub E S) (hE : E.bare d) (hS : S.bare d) (ty : TypeId) (x : Operand) : Mono E S d fun st => st.len Γ (some d) ty x := by
  intro E' he
  dsimp only at he ⊢
  unfold St.len at he ⊢
  split at he
  · rename_i s hl
    rw [h.opd hl]
    simp only
    split at he
    · rename_i hh
      rw [if_pos hh]
      injection he with he; subst he
      exact ⟨_, rfl, add_put h hE hS _⟩
    · cases he
  · rename_i l hnl hl
    rw [h.opd hl]
    simp only [Option.bind_eq_some_iff, Option.map_eq_some_iff] at he
    obtain ⟨p, hp, n, hn, rfl⟩ := he
    refine ⟨_, ?_, add_put h hE hS _⟩
    split
    · rename_i s heq
      injection heq with heq
      injection heq with heq
      injection heq with heq
      exact absurd heq (hnl s)
    · rename_i l' _ heq
      injection heq with heq
      injection heq with heq
      injection heq with heq
      subst heq
      simp only [Option.bind_eq_some_iff, Option.map_eq_some_iff]
      exact ⟨p, hp, n, h.lenL hn, rfl⟩
    · rename_i hno; exact absurd rfl (hno l)
  · cases he
theorem mono_conv (h : Sub E S) (hE : E.bare d) (hS : S.bare d) (s t : TypeId) (x : Operand) : Mono E S d fun st => st.conv Γ (some d) s t x := by
  intro E' he
  dsimp only at he ⊢
  unfold St.conv at he ⊢
  simp only [Option.bind_eq_some_iff, Option.map_eq_some_iff] at he ⊢
  obtain ⟨a, ha, k, hk, n, hn, rfl⟩ := he
  exact ⟨_, ⟨a, ha, k, hk, n, h.opI hn, rfl⟩, add_put h hE hS _⟩
theorem mono_index (h : Sub E S) (hE : E.bare d) (hS : S.bare d) (ty : TypeId) (x i : Operand) : Mono E S d fun st => st.index Γ (some d) ty x i := by
  intro E' he
  dsimp only at he ⊢
  unfold St.index at he ⊢
  split at he
  · rename_i s hl
    rw [h.opd hl]
    simp only
    split at he
    · rename_i hh
      rw [if_pos hh]
      obtain ⟨n, hn, he⟩ := Option.bind_eq_some_iff.1 he
      split at he
      · rename_i hc
        injection he with he; subst he
        exact ⟨_, Option.bind_eq_some_iff.2 ⟨n, h.opI hn, by rw [if_pos hc]⟩, add_put h hE hS _⟩
      · cases he
    · cases he
  · cases he
theorem mono_binOp (h : Sub E S) (hE : E.bare d) (hS : S.bare d) (op : BinOp) (ty : TypeId) (x y : Operand) : Mono E S d fun st => st.binOp Γ (some d) op ty x y := by
  intro E' he
  dsimp only at he ⊢
  unfold St.binOp at he ⊢
  simp only [Option.bind_eq_some_iff, Option.map_eq_some_iff] at he ⊢
  obtain ⟨p, hp, q, hq, s, hs, rfl⟩ := he
  exact ⟨_, ⟨p, h.pureS hp, q, h.pureS hq, s, hs, rfl⟩, add_put h hE hS _⟩
theorem mono_unOp (h : Sub E S) (hE : E.bare d) (hS : S.bare d) (op : UnOp) (ty : TypeId) (x : Operand) : Mono E S d fun st => st.unOp Γ (some d) op ty x := by
  intro E' he
  dsimp only at he ⊢
  unfold St.unOp at he ⊢
  simp only [Option.bind_eq_some_iff, Option.map_eq_some_iff] at he ⊢
  obtain ⟨p, hp, s, hs, rfl⟩ := he
  exact ⟨_, ⟨p, h.pureS hp, s, hs, rfl⟩, add_put h hE hS _⟩
theorem mono_fieldAddr (h : Sub E S) (hE : E.bare d) (hS : S.bare d) (s : TypeId) (x : Operand) (f : Nat) : Mono E S d fun st => st.fieldAddr Γ (some d) s x f := by
  intro E' he
  dsimp only at he ⊢
  unfold St.fieldAddr at he ⊢
  simp only [Option.bind_eq_some_iff] at he ⊢
  obtain ⟨p, hp, ti, hti, he⟩ := he
  split at he
  · cases he
  · rename_i hz
    split at he
    · rename_i l hl
      obtain ⟨l', hl', rfl⟩ := Option.map_eq_some_iff.1 he
      refine ⟨_, ⟨p, hp, ti, hti, ?_⟩, add_put h hE hS _⟩
      rw [if_neg hz, h.opd hl]
      exact Option.map_eq_some_iff.2 ⟨l', hl', rfl⟩
    · cases he
theorem mono_field (h : Sub E S) (hE : E.bare d) (hS : S.bare d) (s : TypeId) (x : Operand) (f : Nat) : Mono E S d fun st => st.field Γ (some d) s x f := by
  intro E' he
  dsimp only at he ⊢
  unfold St.field at he ⊢
  simp only [Option.bind_eq_some_iff] at he ⊢
  obtain ⟨p, hp, ti, hti, he⟩ := he
  split at he
  · rename_i l hl
    obtain ⟨l', hl', rfl⟩ := Option.map_eq_some_iff.1 he
    refine ⟨_, ⟨p, hp, ti, hti, ?_⟩, add_put h hE hS _⟩
    rw [h.opd hl]
    exact Option.map_eq_some_iff.2 ⟨l', hl', rfl⟩
  · cases he
theorem mono_indexAddr (h : Sub E S) (hE : E.bare d) (hS : S.bare d) (t : TypeId) (x i : Operand) : Mono E S d fun st => st.indexAddr Γ (some d) t x i := by
  intro E' he
  dsimp only at he ⊢
  unfold St.indexAddr at he ⊢
  split at he
  · rename_i e ti hti
    obtain ⟨n, hn, he⟩ := Option.bind_eq_some_iff.1 he
    split at he
    · rename_i l hl
      obtain ⟨l', hl', rfl⟩ := Option.map_eq_some_iff.1 he
      refine ⟨_, ?_, add_put h hE hS _⟩
      exact Option.bind_eq_some_iff.2 ⟨n, h.opI hn, by rw [h.opd hl]; exact Option.map_eq_some_iff.2 ⟨l', h.elemL hl', rfl⟩⟩
    · cases he
  · rename_i hti
    simp only [Option.bind_eq_some_iff] at he
    obtain ⟨p, hp, ti, hti2, n, hn, he⟩ := he
    split at he
    · rename_i hc
      split at he
      · rename_i l hl
        obtain ⟨l', hl', rfl⟩ := Option.map_eq_some_iff.1 he
        refine ⟨_, ?_, add_put h hE hS _⟩
        simp only [Option.bind_eq_some_iff]
        exact ⟨p, hp, ti, hti2, n, h.opI hn, by rw [if_pos hc, h.opd hl]; exact Option.map_eq_some_iff.2 ⟨l', hl', rfl⟩⟩
      · cases he
    · cases he
theorem mono_load (h : Sub E S) (hE : E.bare d) (hS : S.bare d) (t : TypeId) (x : Operand) : Mono E S d fun st => st.load Γ (some d) t x := by
  intro E' he
  dsimp only at he ⊢
  unfold St.load at he ⊢
  obtain ⟨ti, hti, he⟩ := Option.bind_eq_some_iff.1 he
  split at he
  · rename_i l hl
    simp only [Option.bind_eq_some_iff, Option.map_eq_some_iff] at he
    obtain ⟨ls, hls, cm, hc, rfl⟩ := he
    refine ⟨_, Option.bind_eq_some_iff.2 ⟨ti, hti, ?_⟩, add_put h hE hS _⟩
    rw [h.opd hl]
    simp only [Option.bind_eq_some_iff, Option.map_eq_some_iff]
    exact ⟨ls, h.leavesAt hls, cm, hc, rfl⟩
  · cases he
theorem mono_nilCheck (h : Sub E S) (hE : E.bare d) (hS : S.bare d) (ty : TypeId) (x : Operand) : Mono E S d fun st => st.nilCheck Γ (some d) ty x := by
  intro E' he
  dsimp only at he ⊢
  unfold St.nilCheck at he ⊢
  split at he
  · rename_i hl; rw [h.opd hl]; injection he with he; subst he; exact ⟨_, rfl, add_put h hE hS _⟩
  · rename_i hl; rw [h.opd hl]; injection he with he; subst he; exact ⟨_, rfl, add_put h hE hS _⟩
  · cases he
theorem mono_alloc (h : Sub E S) (hE : E.bare d) (hS : S.bare d) (t : TypeId) : Mono E S d fun st => st.alloc Γ (some d) t := by
  intro E' he
  dsimp only at he ⊢
  unfold St.alloc at he ⊢
  simp only [Option.bind_eq_some_iff] at he ⊢
  obtain ⟨d', hd', ti, hti, r, hr, he⟩ := he
  injection hd' with hd'; subst hd'
  split at he
  · rename_i hl
    injection he with he; subst he
    have hl' : d < E.ob.length := by rw [killRow_ob] at hl; exact hl
    exact ⟨_, ⟨d, rfl, ti, hti, r, hr, by rw [if_pos (by rw [killRow_ob, h.ob]; exact hl')]⟩, add_row h hE hS hl' _ _⟩
  · cases he
theorem mono_box (h : Sub E S) (hE : E.bare d) (hS : S.bare d) (t : TypeId) (x : Operand) : Mono E S d fun st => st.box Γ (some d) t x := by
  intro E' he
  dsimp only at he ⊢
  unfold St.box at he ⊢
  simp only [Option.bind_eq_some_iff] at he ⊢
  obtain ⟨d', hd', he⟩ := he
  injection hd' with hd'; subst hd'
  split at he
  · rename_i cm hl
    split at he
    · rename_i hlt
      injection he with he; subst he
      have hl' : d < E.ob.length := by rw [killRow_ob] at hlt; exact hlt
      exact ⟨_, ⟨d, rfl, by rw [(h.killRow hE hS).opd hl]; simp only; rw [if_pos (by rw [killRow_ob, h.ob]; exact hl')]⟩, add_row h hE hS hl' _ _⟩
    · cases he
  · cases he
theorem mono_build (h : Sub E S) (hE : E.bare d) (hS : S.bare d) (t : TypeId) (ps : Array (Nat × Operand)) : Mono E S d fun st => st.build Γ (some d) t ps := by
  intro E' he
  dsimp only at he ⊢
  unfold St.build at he ⊢
  simp only [Option.bind_eq_some_iff] at he ⊢
  obtain ⟨d', hd', ti, hti, r, hr, he⟩ := he
  injection hd' with hd'; subst hd'
  split at he
  · rename_i hl
    simp only [Option.bind_eq_some_iff, Option.map_eq_some_iff] at he
    obtain ⟨qs, hqs, ls, hls, rfl⟩ := he
    have hl' : d < E.ob.length := by have := hl.1; rw [killRow_ob] at this; exact this
    refine ⟨_, ⟨d, rfl, ti, hti, r, hr, ?_⟩, add_row h hE hS hl' _ _⟩
    rw [if_pos ⟨by rw [killRow_ob, h.ob]; exact hl', hl.2⟩]
    simp only [Option.bind_eq_some_iff, Option.map_eq_some_iff]
    exact ⟨qs, (h.killRow hE hS).parts _ _ _ hqs, ls, hls, rfl⟩
  · cases he
theorem partLs_same (h : Sub E S) (ty : TypeId) : ∀ (xs : List (Nat × Operand)) (ps : List (Nat × List Leaf)), E.parts Γ xs (fun _ => ty) = some ps → S.partLs Γ ty xs = E.partLs Γ ty xs
  | [], _, _ => rfl
  | (i, x) :: xs, ps, hp => by
    simp only [St.parts] at hp
    split at hp
    · rename_i cm hc
      obtain ⟨q, hq, e⟩ := Option.map_eq_some_iff.1 hp
      have ih := partLs_same h ty xs q hq
      unfold St.partLs at ih ⊢
      simp only [List.flatMap_cons, ih, hc, h.opd hc]
    · cases hp
theorem frzLs_nokeys (st : St) (ls : List Leaf) (h : (ls.flatMap Leaf.keys).isEmpty = true) : st.frzLs ls = st := by
  unfold St.frzLs; rw [List.isEmpty_iff.mp h]; rfl
theorem mono_buildSlice (h : Sub E S) (hE : E.bare d) (hS : S.bare d) (t : TypeId) (n : Nat) (ps : Array (Nat × Operand)) : Mono E S d fun st => st.buildSliceD Γ (some d) t n ps := by
  intro E' he
  dsimp only at he ⊢
  unfold St.buildSliceD at he ⊢
  simp only [Option.bind_eq_some_iff] at he ⊢
  obtain ⟨d', hd', p, hp, he⟩ := he
  injection hd' with hd'; subst hd'
  split at he
  case isFalse => cases he
  rename_i hk
  unfold St.buildSlice at he
  simp only [Option.bind_eq_some_iff] at he
  obtain ⟨d', hd', p', hp', r, hr, he⟩ := he
  injection hd' with hd'; subst hd'
  have hpe : p' = p := by rw [hp] at hp'; injection hp' with hp'; exact hp'.symm
  subst hpe
  rw [frzLs_nokeys _ _ hk] at he
  split at he
  · rename_i hl
    simp only [Option.bind_eq_some_iff, Option.map_eq_some_iff] at he
    obtain ⟨q1, hq1, q2, hq2, xs, hxs, rfl⟩ := he
    have hl' : d < E.ob.length := by have := hl.1; rw [killRow_ob] at this; exact this
    have hk' : (((S.killRow d).partLs Γ p'.1 ps.toList).flatMap Leaf.keys).isEmpty = true := by rw [partLs_same (h.killRow hE hS) _ _ _ hq1]; exact hk
    refine ⟨_, ⟨d, rfl, p', hp, ?_⟩, add_row h hE hS hl' _ _⟩
    rw [if_pos hk']
    unfold St.buildSlice
    simp only [Option.bind_eq_some_iff]
    refine ⟨d, rfl, p', hp, r, hr, ?_⟩
    rw [frzLs_nokeys _ _ hk', if_pos ⟨by rw [killRow_ob, h.ob]; exact hl', hl.2⟩]
    simp only [Option.bind_eq_some_iff, Option.map_eq_some_iff]
    exact ⟨q1, (h.killRow hE hS).parts _ _ _ hq1, q2, hq2, xs, hxs, rfl⟩
  · cases he
theorem mono_buildEmp (h : Sub E S) (hE : E.bare d) (hS : S.bare d) (t : TypeId) (ps : Array (Nat × Operand)) : Mono E S d fun st => st.buildEmp Γ (some d) t ps := by
  intro E' he
  dsimp only at he ⊢
  unfold St.buildEmp at he ⊢
  simp only [Option.bind_eq_some_iff] at he ⊢
  obtain ⟨d', hd', p, hp, r, hr, he⟩ := he
  injection hd' with hd'; subst hd'
  split at he
  · rename_i hl
    injection he with he; subst he
    have hl' : d < E.ob.length := by have := hl.1; rw [killRow_ob] at this; exact this
    exact ⟨_, ⟨d, rfl, p, hp, r, hr, by rw [if_pos ⟨by rw [killRow_ob, h.ob]; exact hl', hl.2⟩]⟩, add_row h hE hS hl' _ _⟩
  · cases he
theorem Sub.isEmp (h : Sub E S) {t : TypeId} {x : Operand} (hx : E.isEmp Γ t x = true) : S.isEmp Γ t x = true := by
  unfold St.isEmp at hx ⊢
  split
  · rfl
  · rename_i hn
    rw [hn] at hx
    simp only at hx
    split at hx
    · rename_i hl; rw [h.opd hl]
    · cases hx
theorem mono_appendNil (h : Sub E S) (hE : E.bare d) (hS : S.bare d) (t : TypeId) (y : Operand) : Mono E S d fun st => st.appendNil Γ (some d) t y := by
  intro E' he
  dsimp only at he ⊢
  unfold St.appendNil at he ⊢
  simp only [Option.bind_eq_some_iff] at he ⊢
  obtain ⟨d', hd', p, hp, r, hr, he⟩ := he
  injection hd' with hd'; subst hd'
  split at he
  · rename_i hl
    simp only [Option.bind_eq_some_iff] at he
    obtain ⟨q, hq, ys, hys, he⟩ := he
    split at he
    · rename_i hlim
      injection he with he; subst he
      have hl' : d < E.ob.length := by have := hl.1; rw [killRow_ob] at this; exact this
      refine ⟨_, ⟨d, rfl, p, hp, r, hr, ?_⟩, add_row h hE hS hl' _ _⟩
      rw [if_pos ⟨by rw [killRow_ob, h.ob]; exact hl', hl.2⟩]
      simp only [Option.bind_eq_some_iff]
      exact ⟨q, (h.killRow hE hS).pureS hq, ys, hys, by rw [if_pos hlim]⟩
    · cases he
  · cases he
theorem mono_call {G : FuncId → Option Sig} {C : FuncId → Fn} (h : Sub E S) (hE : E.bare d) (hS : S.bare d) (cl : Call) : Mono E S d fun st => st.callD Γ G C (some d) d cl := by
  intro E' he
  dsimp only at he ⊢
  have h0 := h.killRow hE hS
  unfold St.callD at he ⊢
  simp only [Option.bind_eq_some_iff] at he ⊢
  obtain ⟨f, hf, sig, hG, y, hy, he⟩ := he
  split at he
  case isFalse => cases he
  rename_i hc
  simp only [Option.bind_eq_some_iff] at he
  obtain ⟨outs, ho, x, hx, he⟩ := he
  have hl' : d < E.ob.length := by have := hc.1; rw [killRow_ob] at this; exact this
  have key : ∀ E', E' = ((E.killRow d).setRow d x.2).putS (some d) (some (retS x.1)) → (aliasCs sig.res outs = true → (f.2.2 ++ y.2.1).isEmpty = true) → ∃ S', (∃ f, (S.killRow d).callee Γ cl.callee = some f ∧ ∃ sig, G f.1 = some sig ∧ ∃ a, (S.killRow d).args Γ (sig.par.take cl.args.size) cl.args.toList cl.argTypes.toList = some a ∧
      (if d < (S.killRow d).ob.length ∧ (sig.par.drop cl.args.size).all isPtr = true ∧ (sig.par.drop cl.args.size).length = f.2.1.length ∧ a.2.2.isEmpty = true then
        (C f.1 (a.1 ++ f.2.1.map .pls)).bind fun outs => (retCs d sig.res outs 0).bind fun x =>
          if aliasCs sig.res outs = true then (if (f.2.2 ++ a.2.1).isEmpty = true then some (((S.killRow d).setRow d x.2).putS (some d) (some (retS x.1))) else none)
          else some (((S.killRow d).setRow d x.2).putS (some d) (some (retS x.1)))
      else none) = some S') ∧ Add S d E' S' := by
    intro E' e hal
    subst e
    refine ⟨_, ⟨f, h0.callee hf, sig, hG, y, h0.args _ _ _ _ hy, ?_⟩, add_row h hE hS hl' _ _⟩
    rw [if_pos ⟨by rw [killRow_ob, h.ob]; exact hl', hc.2⟩]
    simp only [Option.bind_eq_some_iff]
    refine ⟨outs, ho, x, hx, ?_⟩
    by_cases hh : aliasCs sig.res outs = true
    · rw [if_pos hh, if_pos (hal hh)]
    · rw [if_neg hh]
  split at he
  · split at he
    · rename_i hh; injection he with he; exact key E' he.symm (fun _ => hh)
    · cases he
  · rename_i hh; injection he with he; exact key E' he.symm (fun h' => absurd h' hh)
theorem mono_step {c : Ctx} (h : Sub E S) {o : Oper} (hd : o.dst = some d) (hE : E.bare d) (hS : S.bare d) : Mono E S d fun st => st.stepD c o := by
  unfold St.stepD
  rw [hd]
  simp only
  cases ho : o.op <;> simp only
  case move x => exact mono_move h hE hS _ _
  case assign => exact mono_assignD h hE hS _ _
  case pick => exact mono_pick h hE hS _ _ _ _
  case alloc => exact mono_alloc h hE hS _
  case box => exact mono_box h hE hS _ _
  case build => exact mono_build h hE hS _ _
  case buildSlice t n ps =>
    by_cases h0 : n = 0
    · simp only [if_pos h0]; exact mono_buildEmp h hE hS _ _
    · simp only [if_neg h0]; exact mono_buildSlice h hE hS _ _ _
  case load => exact mono_load h hE hS _ _
  case nilCheck => exact mono_nilCheck h hE hS _ _
  case binOp => exact mono_binOp h hE hS _ _ _ _
  case unOp => exact mono_unOp h hE hS _ _ _
  case convert => exact mono_conv h hE hS _ _ _
  case fieldAddr => exact mono_fieldAddr h hE hS _ _ _
  case field => exact mono_field h hE hS _ _ _
  case indexAddr => exact mono_indexAddr h hE hS _ _ _
  case index => exact mono_index h hE hS _ _ _
  case extract => exact mono_extract h hE hS _ _
  case call cl =>
    cases hc : cl.callee with
    | builtin b =>
      simp only
      intro E' he
      dsimp only at he ⊢
      unfold St.callBD at he ⊢
      split at he
      · exact mono_len h hE hS _ _ E' he
      · split at he
        · rename_i e
          split at he
          · rename_i hn
            obtain ⟨S', h1, h2⟩ := mono_appendNil (Γ := c.Γ) h hE hS _ _ E' he
            exact ⟨S', by simp only [if_pos e, if_pos (h.isEmp hn)]; exact h1, h2⟩
          · cases he
        · cases he
      · cases he
    | value x => exact mono_call h hE hS cl
    | invoke r m => simp only; intro E' he; cases he
  all_goals (intro E' he; cases he)
end
end Go.AM
end
section
namespace Go.AM
open Go.RowKit
set_option linter.unusedVariables false

structure R where
  i : Nat
  d : Tmp
  s : Option Slot
  row : List (Option Ob)
def St.addR (st : St) (r : R) : St := (st.setRow r.d r.row).putS (some r.d) r.s
def addAll (T : St) (rs : List R) : St := rs.foldl St.addR T
def needsOf (o : Oper) : List Nat := o.after.toList.filterMap fun e => if Region.binds .any e = true then some e.on else none
def ancOf (acc : List (List Nat)) (o : Oper) : List Nat := ((needsOf o).flatMap fun j => j :: acc.getD j []).eraseDups
def ancAll : List Oper → List (List Nat) → List (List Nat)
  | [], acc => acc
  | o :: os, acc => ancAll os (acc ++ [ancOf acc o])
def lowB : Nat → List Oper → Bool
  | _, [] => true
  | i, o :: os => (needsOf o).all (fun j => decide (j < i)) && lowB (i + 1) os
def isLit (ops : Array Oper) (x : Operand) : Bool :=
  match x with
  | .tmp t => ops.toList.any fun o => match o.op, o.dst with
    | .buildSlice _ 0 _, some d => d == t
    | _, _ => false
  | _ => false
/-- may a store of this region come before a load that the text has ahead of it? -/
def isLate (ops : Array Oper) : Bool := ops.toList.any fun o => o.after.toList.any fun e => match e.ground with
  | .gcOnly _ | .textOnly _ => true
  | _ => false
def isBar (ops : Array Oper) (o : Oper) : Bool :=
  match o.op with
  | .assign _ => !isLate ops
  | .store .. => true
  | .call c => match c.callee, c.args.toList with
    | .builtin .append, x :: _ => !(isNil x || isLit ops x)
    | _, _ => false
  | _ => o.dst.isNone
def wantD (E : St) (ops : Array Oper) (o : Oper) : Option Bool :=
  match o.guard with
  | none => some true
  | some (g, want) => (E.yield ops g).map fun y => wantOf y want
def doOne (c : Ctx) (ops : Array Oper) (A : List (List Nat)) (T : St) (rs : List R) (i : Nat) (o : Oper) : Option R :=
  o.dst.bind fun d =>
    let E := addAll T (rs.filter fun r => (A.getD i []).contains r.i)
    if (T.ob.getD d []).isEmpty = true ∧ (T.slot d).isNone = true ∧ rs.all (fun r => decide (r.d ≠ d)) = true ∧ d < T.sl.length ∧ d < T.ob.length then
      (wantD E ops o).bind fun wnt => match wnt with
        | true => (E.stepD c o).map fun E' => ⟨i, d, E'.slot d, E'.ob.getD d []⟩
        | false => some ⟨i, d, some (.tup []), []⟩
    else none
def segEv (c : Ctx) (ops : Array Oper) (A : List (List Nat)) (T : St) : Nat → List Oper → List R → Option (List R × List Oper)
  | _, [], rs => some (rs, [])
  | i, o :: os, rs => if isBar ops o = true then some (rs, o :: os) else (doOne c ops A T rs i o).bind fun r => segEv c ops A T (i + 1) os (rs ++ [r])
def drawEv (c : Ctx) (ops : Array Oper) (A : List (List Nat)) : Nat → Nat → List Oper → St → Option St
  | 0, _, _, _ => none
  | f + 1, i, os, T => (segEv c ops A T i os []).bind fun x => match x.2 with
    | [] => some (addAll T x.1)
    | b :: os' =>
      if (List.range (i + x.1.length)).all (fun j => (A.getD (i + x.1.length) []).contains j) = true ∧ (List.range ops.size).all (fun m => decide (m ≤ i + x.1.length) || (A.getD m []).contains (i + x.1.length)) = true then
        (wantD (addAll T x.1) ops b).bind fun wnt => match wnt with
          | true => ((addAll T x.1).step c b).bind fun T' => drawEv c ops A f (i + x.1.length + 1) os' T'
          | false => drawEv c ops A f (i + x.1.length + 1) os' ((addAll T x.1).skipS b.dst)
      else none
def St.clear (ops : Array Oper) (st : St) (os : List Oper) : St := os.foldl (fun st o => if isBar ops o = true then st else match o.dst with | some d => (st.killRow d).putS (some d) none | none => st) st
def runDraw (c : Ctx) (ops : Array Oper) (st : St) : Option St :=
  if lowB 0 ops.toList = true then drawEv c ops (ancAll ops.toList []) (ops.size + 1) 0 ops.toList (st.clear ops ops.toList) else none

/-! ### what adding does -/
structure EqSt (S S' : St) : Prop where
  slot : ∀ i, S.slot i = S'.slot i
  get : ∀ k, S.get k = S'.get k
  sl : S.sl.length = S'.sl.length
  ob : S.ob.length = S'.ob.length
theorem addR_slot (st : St) (r : R) (hd : r.d < st.sl.length) (i : Nat) : (st.addR r).slot i = if i = r.d then r.s else st.slot i := by
  unfold St.addR
  rw [slot_putS]
  have e : (st.setRow r.d r.row).sl.length = st.sl.length := rfl
  rw [e]
  by_cases h : i = r.d
  · rw [if_pos h, if_pos ⟨h.symm, hd⟩]
  · rw [if_neg h, if_neg (fun hh => h hh.1.symm)]; rfl
theorem addR_get (st : St) (r : R) (hd : r.d < st.ob.length) (k : Key) : (st.addR r).get k = if k.1 = r.d then r.row.getD k.2 none else st.get k := by
  unfold St.addR
  rw [get_putS, get_setRow]
  by_cases h : k.1 = r.d
  · rw [if_pos h, if_pos ⟨h.symm, hd⟩]
  · rw [if_neg h, if_neg (fun hh => h hh.1.symm)]
theorem addR_sl (st : St) (r : R) : (st.addR r).sl.length = st.sl.length := by simp [St.addR, St.putS, St.setRow]
theorem addR_ob (st : St) (r : R) : (st.addR r).ob.length = st.ob.length := by simp [St.addR, St.putS, St.setRow]
theorem addAll_sl : ∀ (rs : List R) (T : St), (addAll T rs).sl.length = T.sl.length
  | [], _ => rfl
  | r :: rs, T => (addAll_sl rs _).trans (addR_sl T r)
theorem addAll_ob : ∀ (rs : List R) (T : St), (addAll T rs).ob.length = T.ob.length
  | [], _ => rfl
  | r :: rs, T => (addAll_ob rs _).trans (addR_ob T r)
def In (T : St) (rs : List R) : Prop := ∀ r ∈ rs, r.d < T.sl.length ∧ r.d < T.ob.length
def Dist (rs : List R) : Prop := ∀ r ∈ rs, ∀ r' ∈ rs, r.d = r'.d → r = r'
theorem addAll_out : ∀ (rs : List R) (T : St) (t : Nat), In T rs → (∀ r ∈ rs, r.d ≠ t) → (addAll T rs).slot t = T.slot t ∧ ∀ k : Key, k.1 = t → (addAll T rs).get k = T.get k
  | [], _, _, _, _ => ⟨rfl, fun _ _ => rfl⟩
  | r :: rs, T, t, hi, h => by
    have hr := hi r (by simp)
    obtain ⟨h1, h2⟩ := addAll_out rs (T.addR r) t (fun q hq => by rw [addR_sl, addR_ob]; exact hi q (by simp [hq])) (fun q hq => h q (by simp [hq]))
    have hne : t ≠ r.d := fun e => h r (by simp) e.symm
    refine ⟨?_, fun k hk => ?_⟩
    · show (addAll (T.addR r) rs).slot t = _
      rw [h1, addR_slot _ _ hr.1, if_neg hne]
    · show (addAll (T.addR r) rs).get k = _
      rw [h2 k hk, addR_get _ _ hr.2, if_neg (by rw [hk]; exact hne)]
theorem addAll_in : ∀ (rs : List R) (T : St) (r : R), In T rs → Dist rs → r ∈ rs → (addAll T rs).slot r.d = r.s ∧ ∀ k : Key, k.1 = r.d → (addAll T rs).get k = r.row.getD k.2 none
  | [], _, _, _, _, h => by cases h
  | q :: rs, T, r, hi, hd, h => by
    have hq := hi q (by simp)
    have hi' : In (T.addR q) rs := fun p hp => by rw [addR_sl, addR_ob]; exact hi p (by simp [hp])
    have hd' : Dist rs := fun p hp p' hp' => hd p (by simp [hp]) p' (by simp [hp'])
    by_cases hm : r ∈ rs
    · exact addAll_in rs (T.addR q) r hi' hd' hm
    · have hrq : r = q := by
        rcases List.mem_cons.mp h with h | h
        · exact h
        · exact absurd h hm
      subst hrq
      have hne : ∀ p ∈ rs, p.d ≠ r.d := fun p hp e => hm (by rw [← hd p (by simp [hp]) r (by simp) e]; exact hp)
      obtain ⟨h1, h2⟩ := addAll_out rs (T.addR r) r.d hi' hne
      refine ⟨?_, fun k hk => ?_⟩
      · show (addAll (T.addR r) rs).slot r.d = _
        rw [h1, addR_slot _ _ hq.1, if_pos rfl]
      · show (addAll (T.addR r) rs).get k = _
        rw [h2 k hk, addR_get _ _ hq.2, if_pos hk]
/-- the rows of a segment are clean where it begins -/
def Clean (T : St) (rs : List R) : Prop := ∀ r ∈ rs, T.slot r.d = none ∧ T.ob.getD r.d [] = []
theorem sub_of {T : St} {l1 l2 rs : List R} (hi : In T rs) (hd : Dist rs) (hc : Clean T rs) (h1 : ∀ r ∈ l1, r ∈ l2) (h2 : ∀ r ∈ l2, r ∈ rs) : Sub (addAll T l1) (addAll T l2) := by
  have hi2 : In T l2 := fun r hr => hi r (h2 r hr)
  have hi1 : In T l1 := fun r hr => hi2 r (h1 r hr)
  have hd2 : Dist l2 := fun r hr r' hr' => hd r (h2 r hr) r' (h2 r' hr')
  have hd1 : Dist l1 := fun r hr r' hr' => hd2 r (h1 r hr) r' (h1 r' hr')
  refine ⟨fun t s hs => ?_, fun k o hk => ?_, by rw [addAll_sl, addAll_sl], by rw [addAll_ob, addAll_ob]⟩
  · by_cases hex : ∃ r ∈ l1, r.d = t
    · obtain ⟨r, hr, rfl⟩ := hex
      rw [(addAll_in l1 T r hi1 hd1 hr).1] at hs
      rw [(addAll_in l2 T r hi2 hd2 (h1 r hr)).1]; exact hs
    · have hn : ∀ r ∈ l1, r.d ≠ t := fun r hr e => hex ⟨r, hr, e⟩
      rw [(addAll_out l1 T t hi1 hn).1] at hs
      by_cases hex2 : ∃ r ∈ l2, r.d = t
      · obtain ⟨r, hr, rfl⟩ := hex2
        rw [(hc r (h2 r hr)).1] at hs; cases hs
      · rw [(addAll_out l2 T t hi2 (fun r hr e => hex2 ⟨r, hr, e⟩)).1]; exact hs
  · by_cases hex : ∃ r ∈ l1, r.d = k.1
    · obtain ⟨r, hr, he⟩ := hex
      rw [(addAll_in l1 T r hi1 hd1 hr).2 k he.symm] at hk
      rw [(addAll_in l2 T r hi2 hd2 (h1 r hr)).2 k he.symm]; exact hk
    · have hn : ∀ r ∈ l1, r.d ≠ k.1 := fun r hr e => hex ⟨r, hr, e⟩
      rw [(addAll_out l1 T k.1 hi1 hn).2 k rfl] at hk
      by_cases hex2 : ∃ r ∈ l2, r.d = k.1
      · obtain ⟨r, hr, he⟩ := hex2
        unfold St.get at hk
        rw [← he, (hc r (h2 r hr)).2] at hk; cases hk
      · rw [(addAll_out l2 T k.1 hi2 (fun r hr e => hex2 ⟨r, hr, e⟩)).2 k rfl]; exact hk
theorem eq_of {T : St} {l1 l2 rs : List R} (hi : In T rs) (hd : Dist rs) (hc : Clean T rs) (h1 : ∀ r, r ∈ l1 ↔ r ∈ l2) (h2 : ∀ r ∈ l2, r ∈ rs) : EqSt (addAll T l1) (addAll T l2) := by
  have hi2 : In T l2 := fun r hr => hi r (h2 r hr)
  have hi1 : In T l1 := fun r hr => hi2 r ((h1 r).mp hr)
  have hd2 : Dist l2 := fun r hr r' hr' => hd r (h2 r hr) r' (h2 r' hr')
  have hd1 : Dist l1 := fun r hr r' hr' => hd2 r ((h1 r).mp hr) r' ((h1 r').mp hr')
  refine ⟨fun t => ?_, fun k => ?_, by rw [addAll_sl, addAll_sl], by rw [addAll_ob, addAll_ob]⟩
  · by_cases hex : ∃ r ∈ l1, r.d = t
    · obtain ⟨r, hr, rfl⟩ := hex
      rw [(addAll_in l1 T r hi1 hd1 hr).1, (addAll_in l2 T r hi2 hd2 ((h1 r).mp hr)).1]
    · rw [(addAll_out l1 T t hi1 (fun r hr e => hex ⟨r, hr, e⟩)).1, (addAll_out l2 T t hi2 (fun r hr e => hex ⟨r, (h1 r).mpr hr, e⟩)).1]
  · by_cases hex : ∃ r ∈ l1, r.d = k.1
    · obtain ⟨r, hr, he⟩ := hex
      rw [(addAll_in l1 T r hi1 hd1 hr).2 k he.symm, (addAll_in l2 T r hi2 hd2 ((h1 r).mp hr)).2 k he.symm]
    · rw [(addAll_out l1 T k.1 hi1 (fun r hr e => hex ⟨r, hr, e⟩)).2 k rfl, (addAll_out l2 T k.1 hi2 (fun r hr e => hex ⟨r, (h1 r).mpr hr, e⟩)).2 k rfl]
/-- one more -/
theorem add_eq {T S S' E' : St} {l1 l2 rs : List R} {r : R} (hi : In T rs) (hd : Dist rs) (hc : Clean T rs) (hr : r ∈ rs) (hrn : ∀ q ∈ l1, q.d ≠ r.d) (h1 : ∀ q, q ∈ l2 ↔ q ∈ l1 ∨ q = r) (h2 : ∀ q ∈ l1, q ∈ rs) (hS : EqSt S (addAll T l1)) (ha : Add S r.d E' S') (hs : r.s = E'.slot r.d) (hrow : r.row = E'.ob.getD r.d []) : EqSt S' (addAll T l2) := by
  have h2' : ∀ q ∈ l2, q ∈ rs := fun q hq => by
    rcases (h1 q).mp hq with h | h
    · exact h2 q h
    · rw [h]; exact hr
  have hi2 : In T l2 := fun q hq => hi q (h2' q hq)
  have hi1 : In T l1 := fun q hq => hi q (h2 q hq)
  have hd2 : Dist l2 := fun q hq q' hq' => hd q (h2' q hq) q' (h2' q' hq')
  have hd1 : Dist l1 := fun q hq q' hq' => hd q (h2 q hq) q' (h2 q' hq')
  refine ⟨fun t => ?_, fun k => ?_, by rw [ha.sl, hS.sl, addAll_sl, addAll_sl], by rw [ha.ob, hS.ob, addAll_ob, addAll_ob]⟩
  · rw [ha.slot]
    by_cases e : t = r.d
    · subst e
      rw [if_pos rfl, (addAll_in l2 T r hi2 hd2 ((h1 r).mpr (.inr rfl))).1, hs]
    · rw [if_neg e, hS.slot]
      by_cases hex : ∃ q ∈ l1, q.d = t
      · obtain ⟨q, hq, rfl⟩ := hex
        rw [(addAll_in l1 T q hi1 hd1 hq).1, (addAll_in l2 T q hi2 hd2 ((h1 q).mpr (.inl hq))).1]
      · rw [(addAll_out l1 T t hi1 (fun q hq he => hex ⟨q, hq, he⟩)).1, (addAll_out l2 T t hi2 (fun q hq he => by
          rcases (h1 q).mp hq with h | h
          · exact hex ⟨q, h, he⟩
          · rw [h] at he; exact e he.symm)).1]
  · rw [ha.get]
    by_cases e : k.1 = r.d
    · rw [if_pos e, (addAll_in l2 T r hi2 hd2 ((h1 r).mpr (.inr rfl))).2 k e, hrow]
      unfold St.get; rw [e]
    · rw [if_neg e, hS.get]
      by_cases hex : ∃ q ∈ l1, q.d = k.1
      · obtain ⟨q, hq, he⟩ := hex
        rw [(addAll_in l1 T q hi1 hd1 hq).2 k he.symm, (addAll_in l2 T q hi2 hd2 ((h1 q).mpr (.inl hq))).2 k he.symm]
      · rw [(addAll_out l1 T k.1 hi1 (fun q hq he => hex ⟨q, hq, he⟩)).2 k rfl, (addAll_out l2 T k.1 hi2 (fun q hq he => by
          rcases (h1 q).mp hq with h | h
          · exact hex ⟨q, h, he⟩
          · rw [h] at he; exact e he.symm)).2 k rfl]
end Go.AM
end
section
namespace Go.AM
open Go.RowKit
set_option linter.unusedVariables false

theorem addR_row (st : St) (r : R) (t : Nat) (h : r.d ≠ t) : (st.addR r).ob.getD t [] = st.ob.getD t [] := by
  unfold St.addR St.putS St.setRow
  simp only
  rw [getD_set, if_neg (fun hh => h hh.1)]
theorem addAll_row : ∀ (rs : List R) (T : St) (t : Nat), (∀ r ∈ rs, r.d ≠ t) → (addAll T rs).ob.getD t [] = T.ob.getD t []
  | [], _, _, _ => rfl
  | r :: rs, T, t, h => (addAll_row rs (T.addR r) t (fun q hq => h q (by simp [hq]))).trans (addR_row T r t (h r (by simp)))

/-! ### ancestors -/
theorem ancAll_pre : ∀ (os : List Oper) (acc : List (List Nat)), ∃ more, ancAll os acc = acc ++ more
  | [], acc => ⟨[], by simp [ancAll]⟩
  | o :: os, acc => by
    obtain ⟨more, h⟩ := ancAll_pre os (acc ++ [ancOf acc o])
    exact ⟨ancOf acc o :: more, by rw [ancAll, h]; simp⟩
theorem ancAll_at : ∀ (os : List Oper) (acc : List (List Nat)) (p : Nat) (o : Oper), os[p]? = some o → (ancAll os acc).getD (acc.length + p) [] = ancOf ((ancAll os acc).take (acc.length + p)) o
  | [], _, _, _, h => by simp at h
  | q :: os, acc, 0, o, h => by
    simp only [List.getElem?_cons_zero, Option.some.injEq] at h
    subst h
    obtain ⟨more, hm⟩ := ancAll_pre os (acc ++ [ancOf acc q])
    rw [ancAll, hm]
    simp [List.getD_eq_getElem?_getD]
  | q :: os, acc, p + 1, o, h => by
    have := ancAll_at os (acc ++ [ancOf acc q]) p o (by simpa using h)
    rw [List.length_append, List.length_singleton] at this
    rw [ancAll, show acc.length + (p + 1) = acc.length + 1 + p by omega]
    exact this
theorem anc_spec {os : List Oper} {i : Nat} {o : Oper} (h : os[i]? = some o) {k : Nat} (hk : k ∈ (ancAll os []).getD i []) : ∃ j ∈ needsOf o, k = j ∨ k ∈ (ancAll os []).getD j [] := by
  have := ancAll_at os [] i o h
  simp only [List.length_nil, Nat.zero_add] at this
  rw [this] at hk
  unfold ancOf at hk
  rw [List.mem_eraseDups, List.mem_flatMap] at hk
  obtain ⟨j, hj, hk⟩ := hk
  refine ⟨j, hj, ?_⟩
  rcases List.mem_cons.mp hk with h1 | h1
  · exact .inl h1
  · right
    simp only [List.getD_eq_getElem?_getD, List.getElem?_take] at h1 ⊢
    split at h1
    · exact h1
    · cases h1
theorem low_spec : ∀ (os : List Oper) (i : Nat), lowB i os = true → ∀ (p : Nat) (o : Oper), os[p]? = some o → ∀ j ∈ needsOf o, j < i + p
  | [], _, _, p, o, h, _, _ => by simp at h
  | q :: os, i, hl, p, o, h, j, hj => by
    simp only [lowB, Bool.and_eq_true] at hl
    cases p with
    | zero =>
      simp only [List.getElem?_cons_zero, Option.some.injEq] at h
      subst h
      simpa using List.all_eq_true.mp hl.1 j hj
    | succ p =>
      have := low_spec os (i + 1) hl.2 p o (by simpa using h) j hj
      omega
theorem needs_mem {o : Oper} {j : Nat} : j ∈ needsOf o ↔ ∃ e ∈ o.after, Region.binds .any e = true ∧ e.on = j := by
  unfold needsOf
  rw [List.mem_filterMap]
  constructor
  · rintro ⟨e, he, h⟩
    split at h
    · rename_i hb; injection h with h; exact ⟨e, by simpa using he, hb, h⟩
    · cases h
  · rintro ⟨e, he, hb, rfl⟩
    exact ⟨e, by simpa using he, by rw [if_pos hb]⟩

/-! ### counting what has not come up -/
def unl (n : Nat) (l : Array Bool) : Nat := ((List.range n).filter fun j => !l.getD j false).length
theorem cnt_le (p p' : Nat → Bool) (h : ∀ j, p' j = true → p j = true) : ∀ (l : List Nat), (l.filter p').length ≤ (l.filter p).length
  | [] => Nat.le_refl _
  | x :: l => by
    have ih := cnt_le p p' h l
    simp only [List.filter_cons]
    cases h1 : p' x with
    | true => rw [h x h1]; simpa using ih
    | false => cases h2 : p x <;> simp <;> omega
theorem cnt_lt (p p' : Nat → Bool) (h : ∀ j, p' j = true → p j = true) (i : Nat) (hi : p i = true) (hi' : p' i = false) : ∀ (l : List Nat), i ∈ l → (l.filter p').length < (l.filter p).length
  | x :: l, hm => by
    have ih := cnt_le p p' h l
    simp only [List.filter_cons]
    by_cases e : x = i
    · subst e; rw [hi, hi']; simp; omega
    · have hml : i ∈ l := by
        rcases List.mem_cons.mp hm with h1 | h1
        · exact absurd h1.symm e
        · exact h1
      have ih2 := cnt_lt p p' h i hi hi' l hml
      cases h1 : p' x with
      | true => rw [h x h1]; simpa using ih2
      | false => cases h2 : p x <;> simp <;> omega
theorem getD_set_self {l : Array Bool} {i : Nat} (h : i < l.size) (d : Bool) : (l.setIfInBounds i true).getD i d = true := by simp [h]
theorem getD_dflt {l : Array Bool} {i : Nat} (h : i < l.size) (d d' : Bool) : l.getD i d = l.getD i d' := by simp [h]
theorem unl_set {n i : Nat} {l : Array Bool} (hi : i < n) (hl : l.size = n) (hu : l.getD i false = false) : unl n (l.setIfInBounds i true) < unl n l := by
  apply cnt_lt _ _ _ i
  · rw [hu]; rfl
  · rw [getD_set_self (by omega)]; rfl
  · exact List.mem_range.mpr hi
  · intro j hj
    by_cases e : i = j
    · subst e; rw [getD_set_self (by omega)] at hj; cases hj
    · rw [getD_set_ne false e] at hj; exact hj
theorem unl_zero {n : Nat} {l : Array Bool} (h : unl n l = 0) : ∀ j < n, l.getD j false = true := by
  intro j hj
  unfold unl at h
  have := List.filter_eq_nil_iff.mp (List.length_eq_zero_iff.mp h) j (List.mem_range.mpr hj)
  simpa using this

/-! ### a segment -/
def Facts (c : Ctx) (ops : Array Oper) (A : List (List Nat)) (T : St) (pre : List R) (i : Nat) (o : Oper) (r : R) : Prop :=
  r.i = i ∧ o.dst = some r.d ∧ T.ob.getD r.d [] = [] ∧ T.slot r.d = none ∧ (∀ q ∈ pre, q.d ≠ r.d) ∧ r.d < T.sl.length ∧ r.d < T.ob.length ∧
    ((wantD (addAll T (pre.filter fun q => (A.getD i []).contains q.i)) ops o = some true ∧ ∃ E', (addAll T (pre.filter fun q => (A.getD i []).contains q.i)).stepD c o = some E' ∧ r.s = E'.slot r.d ∧ r.row = E'.ob.getD r.d []) ∨
     (wantD (addAll T (pre.filter fun q => (A.getD i []).contains q.i)) ops o = some false ∧ r.s = some (.tup []) ∧ r.row = []))
theorem doOne_ok {c : Ctx} {ops : Array Oper} {A : List (List Nat)} {T : St} {pre : List R} {i : Nat} {o : Oper} {r : R} (h : doOne c ops A T pre i o = some r) : Facts c ops A T pre i o r := by
  unfold doOne at h
  obtain ⟨d, hd, h⟩ := Option.bind_eq_some_iff.1 h
  simp only at h
  split at h
  case isFalse => cases h
  rename_i hc
  obtain ⟨h1, h2, h3, h4, h5⟩ := hc
  have h3' : ∀ q ∈ pre, q.d ≠ d := fun q hq => by simpa using List.all_eq_true.mp h3 q hq
  obtain ⟨wnt, hw, h⟩ := Option.bind_eq_some_iff.1 h
  cases wnt with
  | true =>
    obtain ⟨E', hE, rfl⟩ := Option.map_eq_some_iff.1 h
    exact ⟨rfl, hd, List.isEmpty_iff.mp h1, Option.isNone_iff_eq_none.mp h2, h3', h4, h5, .inl ⟨hw, E', hE, rfl, rfl⟩⟩
  | false =>
    injection h with h; subst h
    exact ⟨rfl, hd, List.isEmpty_iff.mp h1, Option.isNone_iff_eq_none.mp h2, h3', h4, h5, .inr ⟨hw, rfl, rfl⟩⟩
theorem segEv_ok {c : Ctx} {ops : Array Oper} {A : List (List Nat)} {T : St} : ∀ (os : List Oper) (i : Nat) (acc rs : List R) (os' : List Oper), segEv c ops A T i os acc = some (rs, os') →
    ∃ new, rs = acc ++ new ∧ os.drop new.length = os' ∧ ∀ (p : Nat) (r : R), new[p]? = some r → ∃ o, os[p]? = some o ∧ Facts c ops A T (acc ++ new.take p) (i + p) o r
  | [], i, acc, rs, os', h => by
    simp only [segEv, Option.some.injEq, Prod.mk.injEq] at h
    obtain ⟨rfl, rfl⟩ := h
    exact ⟨[], by simp, rfl, fun p r hr => by simp at hr⟩
  | o :: os, i, acc, rs, os', h => by
    unfold segEv at h
    split at h
    · simp only [Option.some.injEq, Prod.mk.injEq] at h
      obtain ⟨rfl, rfl⟩ := h
      exact ⟨[], by simp, rfl, fun p r hr => by simp at hr⟩
    · obtain ⟨r0, hr0, h⟩ := Option.bind_eq_some_iff.1 h
      obtain ⟨new, h1, h2, h3⟩ := segEv_ok os (i + 1) (acc ++ [r0]) rs os' h
      refine ⟨r0 :: new, by rw [h1]; simp, by simpa using h2, fun p r hr => ?_⟩
      cases p with
      | zero =>
        simp only [List.getElem?_cons_zero, Option.some.injEq] at hr
        subst hr
        exact ⟨o, rfl, by simpa using doOne_ok hr0⟩
      | succ p =>
        obtain ⟨o', ho', hf⟩ := h3 p r (by simpa using hr)
        refine ⟨o', by simpa using ho', ?_⟩
        rw [show i + (p + 1) = i + 1 + p by omega]
        simpa using hf

section
variable {P : Program} {c : Ctx} {B : Nat} {E X : Nat → Prop} {w0 w w' : World} {V V' : Key → Value} {st st' : St} {a : Act} {o : Oper} {Q : Exit → Act → World → Prop}
theorem Sub.yield {E S : St} (h : Sub E S) {ops : Array Oper} {g : Nat} {y : Option Bool} (hy : E.yield ops g = some y) : S.yield ops g = some y := by
  unfold St.yield at hy ⊢
  split at hy
  · split at hy
    · rename_i hs; rw [h.slot _ _ hs]; exact hy
    · rename_i hs; rw [h.slot _ _ hs]; exact hy
    · cases hy
  · cases hy
theorem Sub.wantD {E S : St} (h : Sub E S) {ops : Array Oper} {b : Bool} (hy : wantD E ops o = some b) : AM.wantD S ops o = some b := by
  unfold AM.wantD at hy ⊢
  split at hy
  · exact hy
  · obtain ⟨y, h1, h2⟩ := Option.map_eq_some_iff.1 hy
    exact Option.map_eq_some_iff.2 ⟨y, h.yield h1, h2⟩
theorem wantD_true {S : St} {ops : Array Oper} (h : wantD S ops o = some true) : o.guard = none ∨ ∃ g want y, o.guard = some (g, want) ∧ S.yield ops g = some y ∧ wantOf y want = true := by
  unfold wantD at h
  split at h
  · exact .inl (by assumption)
  · rename_i g want hg
    obtain ⟨y, h1, h2⟩ := Option.map_eq_some_iff.1 h
    exact .inr ⟨g, want, y, hg, h1, h2⟩
theorem wantD_false {S : St} {ops : Array Oper} (h : wantD S ops o = some false) : ∃ g want y, o.guard = some (g, want) ∧ S.yield ops g = some y ∧ wantOf y want = false := by
  unfold wantD at h
  split at h
  · cases h
  · rename_i g want hg
    obtain ⟨y, h1, h2⟩ := Option.map_eq_some_iff.1 h
    exact ⟨g, want, y, hg, h1, h2⟩
theorem Rel.eqSt (h : Rel B E X w0 V st a w) (he : EqSt st st') : Rel B E X w0 V st' a w := h.congr (fun k => (he.get k).symm) (fun i => (he.slot i).symm) he.sl.symm
theorem sound_drawEv (hΓ : TysOk P c.Γ) (hF : FnsOk P c.G c.C) (hx : ∀ b, X b → b < B) {ops : Array Oper} (hlow : lowB 0 ops.toList = true) {st' : St} (hQ : ∀ V' a' w', Rel B E X w0 V' st' a' w' → Q .normal a' w') :
    ∀ (f i0 : Nat) (os : List Oper) (T : St), drawEv c ops (ancAll ops.toList []) f i0 os T = some st' → ops.toList.drop i0 = os → ∀ (n : Nat) (l : Array Bool) (V : Key → Value) (a : Act) (w : World), l.size = ops.size →
      (∀ j, l.getD j false = true → ∀ k ∈ (ancAll ops.toList []).getD j [], l.getD k false = true) → (∀ j, j < i0 → j < ops.size → l.getD j false = true) → (∀ j, i0 ≤ j → l.getD j false = false) → unl ops.size l ≤ n → Rel B E X w0 V T a w → wpAny P .any ops Q n l a w
  | 0, _, _, _, h => by cases h
  | f + 1, i0, os, T, h => by
    intro hos
    unfold drawEv at h
    obtain ⟨⟨rs, os'⟩, hseg, h⟩ := Option.bind_eq_some_iff.1 h
    obtain ⟨new, hnew, hdrop, hfacts⟩ := segEv_ok os i0 [] rs os' hseg
    have hnr : new = rs := by simpa using hnew.symm
    subst hnr
    simp only [List.nil_append] at hfacts
    generalize hA : ancAll ops.toList [] = A at *
    let i1 := i0 + new.length
    have hops : ∀ p, os[p]? = ops[i0 + p]? := fun p => by rw [← hos, List.getElem?_drop]; simp
    have hrest : ∀ p, os'[p]? = ops[i1 + p]? := fun p => by rw [← hdrop, List.getElem?_drop, hops]; congr 1; omega
    -- the segment's rows
    have hmem : ∀ r ∈ new, ∃ p o, new[p]? = some r ∧ ops[i0 + p]? = some o ∧ Facts c ops A T (new.take p) (i0 + p) o r := fun r hr => by
      obtain ⟨p, hp, e⟩ := List.mem_iff_getElem.mp hr
      have hg : new[p]? = some r := by rw [List.getElem?_eq_getElem hp, e]
      obtain ⟨o, ho, hf⟩ := hfacts p r hg
      exact ⟨p, o, hg, by rw [← hops]; exact ho, hf⟩
    have hIn : In T new := fun r hr => by obtain ⟨p, o, _, _, hf⟩ := hmem r hr; exact ⟨hf.2.2.2.2.2.1, hf.2.2.2.2.2.2.1⟩
    have hClean : Clean T new := fun r hr => by obtain ⟨p, o, _, _, hf⟩ := hmem r hr; exact ⟨hf.2.2.2.1, hf.2.2.1⟩
    have hpre : ∀ (p p' : Nat) (r r' : R), new[p]? = some r → new[p']? = some r' → p < p' → r.d ≠ r'.d := fun p p' r r' h1 h2 hlt => by
      obtain ⟨o, _, hf⟩ := hfacts p' r' h2
      exact hf.2.2.2.2.1 r (List.mem_of_getElem? (i := p) (by rw [List.getElem?_take, if_pos hlt]; exact h1))
    have hDist : Dist new := fun r hr r' hr' e => by
      obtain ⟨p, o, hp, _, _⟩ := hmem r hr
      obtain ⟨p', o', hp', _, _⟩ := hmem r' hr'
      rcases Nat.lt_trichotomy p p' with h1 | h1 | h1
      · exact absurd e (hpre p p' r r' hp hp' h1)
      · subst h1; rw [hp] at hp'; injection hp'
      · exact absurd e.symm (hpre p' p r' r hp' hp h1)
    have hidx : ∀ r ∈ new, i0 ≤ r.i ∧ r.i < i1 ∧ r.i < ops.size := fun r hr => by
      obtain ⟨p, o, hp, ho, hf⟩ := hmem r hr
      have h1 := (List.getElem?_eq_some_iff.mp hp).1
      have h2 := (Array.getElem?_eq_some_iff.mp ho).1
      rw [hf.1]; exact ⟨by omega, by omega, h2⟩
    have hinj : ∀ r ∈ new, ∀ r' ∈ new, r.i = r'.i → r = r' := fun r hr r' hr' e => by
      obtain ⟨p, o, hp, _, hf⟩ := hmem r hr
      obtain ⟨p', o', hp', _, hf'⟩ := hmem r' hr'
      rw [hf.1, hf'.1] at e
      have : p = p' := by omega
      subst this; rw [hp] at hp'; injection hp'
    -- inside the segment
    have key : ∀ (n : Nat) (l : Array Bool) (V : Key → Value) (a : Act) (w : World), l.size = ops.size → (∀ j, l.getD j false = true → ∀ k ∈ A.getD j [], l.getD k false = true) → (∀ j, j < i0 → j < ops.size → l.getD j false = true) → (∀ j, i1 ≤ j → l.getD j false = false) → unl ops.size l ≤ n →
        Rel B E X w0 V (addAll T (new.filter fun r => l.getD r.i false)) a w → wpAny P .any ops Q n l a w := by
      -- all have come up: the end
      have hend : ∀ (l : Array Bool) (V : Key → Value) (a : Act) (w : World), (∀ j, i1 ≤ j → l.getD j false = false) → (∀ j, j < ops.size → l.getD j false = true) → Rel B E X w0 V (addAll T (new.filter fun r => l.getD r.i false)) a w → Q .normal a w := by
        intro l V a w hhi hall hR
        have hnil : os' = [] := by
          cases hos' : os' with
          | nil => rfl
          | cons b os'' =>
            have h1 := hrest 0
            rw [hos'] at h1
            have h2 : i1 < ops.size := (Array.getElem?_eq_some_iff.mp h1.symm).1
            have := hhi i1 (Nat.le_refl _)
            rw [hall i1 h2] at this; cases this
        have hfil : (new.filter fun r => l.getD r.i false) = new := List.filter_eq_self.mpr fun r hr => hall r.i (hidx r hr).2.2
        rw [hfil] at hR
        simp only [hnil, Option.some.injEq] at h
        exact hQ V a w (h ▸ hR)
      have hnoready : ∀ (l : Array Bool), l.size = ops.size → Region.ready .any ops l = [] → ∀ j, j < ops.size → l.getD j false = true := by
        intro l hl hr j
        induction j using Nat.strongRecOn with
        | _ j ih =>
          intro hj
          cases hlj : l.getD j false with
          | true => rfl
          | false =>
            exfalso
            have : j ∈ Region.ready .any ops l := by
              rw [mem_ready]
              refine ⟨?_, ops[j], by simp [hj], fun e he hb => ?_⟩
              · rw [getD_dflt (by omega) true false]; exact hlj
              · have hlt := low_spec ops.toList 0 hlow j ops[j] (by simp [hj]) e.on (needs_mem.mpr ⟨e, he, hb, rfl⟩)
                exact ih e.on (by omega) (by omega)
            rw [hr] at this; cases this
      intro n
      induction n with
      | zero =>
        intro l V a w hl hcl hlo hhi hn hR
        have hall := unl_zero (n := ops.size) (l := l) (by omega)
        refine ⟨?_, hend l V a w hhi hall hR⟩
        cases hr : Region.ready .any ops l with
        | nil => rfl
        | cons x xs =>
          exfalso
          have hx' : x ∈ Region.ready .any ops l := by rw [hr]; simp
          obtain ⟨h0, o, ho, _⟩ := mem_ready.mp hx'
          have hlt := (Array.getElem?_eq_some_iff.mp ho).1
          have := hall x hlt
          rw [getD_dflt (by omega) true false, this] at h0; cases h0
      | succ n ih =>
        intro l V a w hl hcl hlo hhi hn hR
        refine ⟨fun hr => hend l V a w hhi (hnoready l hl hr) hR, fun i hi => ?_⟩
        obtain ⟨h0, o, ho, hneeds⟩ := mem_ready.mp hi
        have hilt : i < ops.size := (Array.getElem?_eq_some_iff.mp ho).1
        have hun : l.getD i false = false := by rw [getD_dflt (by omega) false true]; exact h0
        have hanc : ∀ k ∈ A.getD i [], l.getD k false = true := fun k hk => by
          rw [← hA] at hk
          obtain ⟨j, hj, hk⟩ := anc_spec (i := i) (o := o) (by simpa using ho) hk
          obtain ⟨e, he, hb, rfl⟩ := needs_mem.mp hj
          have h1 := hneeds e he hb
          rcases hk with rfl | hk
          · exact h1
          · rw [hA] at hk; exact hcl _ h1 k hk
        have hset : ∀ j, (l.setIfInBounds i true).getD j false = true ↔ (j = i ∨ l.getD j false = true) := fun j => by
          by_cases e : i = j
          · subst e; rw [getD_set_self (by omega)]; simp
          · rw [getD_set_ne false e]
            constructor
            · exact .inr
            · rintro (h1 | h1)
              · exact absurd h1.symm e
              · exact h1
        have hcl' : ∀ j, (l.setIfInBounds i true).getD j false = true → ∀ k ∈ A.getD j [], (l.setIfInBounds i true).getD k false = true := fun j hj k hk => by
          rcases (hset j).mp hj with rfl | hj
          · exact (hset k).mpr (.inr (hanc k hk))
          · exact (hset k).mpr (.inr (hcl j hj k hk))
        have hlo' : ∀ j, j < i0 → j < ops.size → (l.setIfInBounds i true).getD j false = true := fun j hj hjs => (hset j).mpr (.inr (hlo j hj hjs))
        have hn' : unl ops.size (l.setIfInBounds i true) ≤ n := by have := unl_set hilt hl hun; omega
        have hsz' : (l.setIfInBounds i true).size = ops.size := by simpa using hl
        have hi0 : i0 ≤ i := by
          rcases Nat.lt_or_ge i i0 with h1 | h1
          · rw [hlo i h1 hilt] at hun; cases hun
          · exact h1
        rcases Nat.lt_or_ge i i1 with hi1 | hi1
        · -- one of the segment
          obtain ⟨p, hp⟩ : ∃ p, i = i0 + p := ⟨i - i0, by omega⟩
          have hplt : p < new.length := by omega
          have hr : new[p]? = some new[p] := List.getElem?_eq_getElem hplt
          generalize new[p] = r at hr
          obtain ⟨o', ho', hf⟩ := hfacts p r hr
          rw [hops, ← hp, ho] at ho'
          injection ho' with ho'; subst ho'
          rw [← hp] at hf
          obtain ⟨f1, f2, f3, f4, f5, f6, f7, f8⟩ := hf
          have hrm : r ∈ new := List.mem_of_getElem? hr
          let l1 := (new.take p).filter fun q => (A.getD i []).contains q.i
          let l2 := new.filter fun r => l.getD r.i false
          let l3 := new.filter fun r => (l.setIfInBounds i true).getD r.i false
          have h2m : ∀ q ∈ l2, q ∈ new := fun q hq => (List.mem_filter.mp hq).1
          have h12 : ∀ q ∈ l1, q ∈ l2 := fun q hq => by
            obtain ⟨g1, g2⟩ := List.mem_filter.mp hq
            exact List.mem_filter.mpr ⟨List.mem_of_mem_take g1, hanc q.i (by simpa using g2)⟩
          have hsub : Sub (addAll T l1) (addAll T l2) := sub_of hIn hDist hClean h12 h2m
          have hne2 : ∀ q ∈ l2, q.d ≠ r.d := fun q hq e => by
            obtain ⟨g1, g2⟩ := List.mem_filter.mp hq
            have : q = r := hDist q g1 r hrm e
            rw [this, f1] at g2
            rw [hun] at g2; cases g2
          have hne1 : ∀ q ∈ l1, q.d ≠ r.d := fun q hq => hne2 q (h12 q hq)
          have hb1 : (addAll T l1).bare r.d := (addAll_row l1 T r.d hne1).trans f3
          have hb2 : (addAll T l2).bare r.d := (addAll_row l2 T r.d hne2).trans f3
          have h23 : ∀ q, q ∈ l3 ↔ q ∈ l2 ∨ q = r := fun q => by
            constructor
            · intro hq
              obtain ⟨g1, g2⟩ := List.mem_filter.mp hq
              rcases (hset q.i).mp g2 with g3 | g3
              · exact .inr (hinj q g1 r hrm (by rw [g3, f1]))
              · exact .inl (List.mem_filter.mpr ⟨g1, g3⟩)
            · rintro (hq | rfl)
              · obtain ⟨g1, g2⟩ := List.mem_filter.mp hq
                exact List.mem_filter.mpr ⟨g1, (hset q.i).mpr (.inr g2)⟩
              · exact List.mem_filter.mpr ⟨hrm, (hset _).mpr (.inl f1)⟩
          have hrefl : EqSt (addAll T l2) (addAll T l2) := ⟨fun _ => rfl, fun _ => rfl, rfl, rfl⟩
          have hhi' : ∀ j, i1 ≤ j → (l.setIfInBounds i true).getD j false = false := fun j hj => by
            rw [getD_set_ne false (by omega)]; exact hhi j hj
          rcases f8 with ⟨hw, E', hE', g1, g2⟩ | ⟨hw, g1, g2⟩
          · obtain ⟨S', hS', hadd⟩ := mono_step hsub f2 hb1 hb2 E' hE'
            refine sound_one hΓ hF hx ho hR (.inl ⟨S', wantD_true (hsub.wantD hw), stepD_step hS', fun V' a' w' h' => ?_⟩)
            exact ih _ V' a' w' hsz' hcl' hlo' hhi' hn' (h'.eqSt (add_eq hIn hDist hClean hrm hne2 h23 h2m hrefl hadd g1 g2))
          · obtain ⟨g, want, y, hg, hy, hwf⟩ := wantD_false (hsub.wantD hw)
            refine sound_one hΓ hF hx ho hR (.inr ⟨g, want, y, hg, hy, hwf, fun V' a' w' h' => ?_⟩)
            rw [f2] at h'
            have hadd : Add (addAll T l2) r.d ((addAll T l1).putS (some r.d) (some (.tup []))) ((addAll T l2).putS (some r.d) (some (.tup []))) := add_put hsub hb1 hb2 _
            refine ih _ V' a' w' hsz' hcl' hlo' hhi' hn' (Rel.eqSt h' (add_eq hIn hDist hClean hrm hne2 h23 h2m hrefl hadd ?_ ?_))
            · rw [g1, slot_putS, if_pos ⟨rfl, by rw [addAll_sl]; exact f6⟩]
            · rw [g2]
              show [] = (addAll T l1).ob.getD r.d []
              exact hb1.symm
        · -- the operation that ends it
          cases hos' : os' with
          | nil =>
            have h1 := hrest (i - i1)
            rw [hos', show i1 + (i - i1) = i by omega, ho] at h1
            simp at h1
          | cons b os'' =>
            rw [hos'] at h
            simp only at h
            split at h
            case isFalse => cases h
            rename_i hchk
            obtain ⟨hb1, hb2⟩ := hchk
            have hie : i = i1 := by
              rcases Nat.lt_or_ge i1 i with h1 | h1
              · exfalso
                have h2 := List.all_eq_true.mp hb2 i (List.mem_range.mpr hilt)
                simp only [Bool.or_eq_true, decide_eq_true_eq] at h2
                rcases h2 with h2 | h2
                · omega
                · have h3 := hanc i1 (by simpa using h2)
                  rw [hhi i1 (Nat.le_refl _)] at h3; cases h3
              · omega
            have hbo : o = b := by
              have h1 := hrest 0
              rw [hos', Nat.add_zero, ← hie, ho] at h1
              simpa using h1.symm
            subst hbo
            have hprev : ∀ j, j < i1 → l.getD j false = true := fun j hj => by
              have := List.all_eq_true.mp hb1 j (List.mem_range.mpr hj)
              exact hanc j (by rw [hie]; simpa using this)
            have hfil : (new.filter fun r => l.getD r.i false) = new := List.filter_eq_self.mpr fun r hr => hprev r.i (hidx r hr).2.1
            rw [hfil] at hR
            have hos2 : ops.toList.drop (i1 + 1) = os'' := by
              have h1 : ops.toList.drop i1 = o :: os'' := by rw [← hos', ← hdrop, ← hos, List.drop_drop]
              have h2 : ops.toList.drop (i1 + 1) = (ops.toList.drop i1).drop 1 := by rw [List.drop_drop]
              rw [h2, h1]; rfl
            have hlo2 : ∀ j, j < i1 + 1 → j < ops.size → (l.setIfInBounds i true).getD j false = true := fun j hj hjs => by
              rcases Nat.lt_or_ge j i1 with h1 | h1
              · exact (hset j).mpr (.inr (hprev j h1))
              · exact (hset j).mpr (.inl (by omega))
            have hhi2 : ∀ j, i1 + 1 ≤ j → (l.setIfInBounds i true).getD j false = false := fun j hj => by
              rw [getD_set_ne false (by omega)]; exact hhi j (by omega)
            subst hA
            obtain ⟨wnt, hw, h⟩ := Option.bind_eq_some_iff.1 h
            cases wnt with
            | true =>
              obtain ⟨T', hT', h⟩ := Option.bind_eq_some_iff.1 h
              exact sound_one hΓ hF hx ho hR (.inl ⟨T', wantD_true hw, hT', fun V' a' w' h' => sound_drawEv hΓ hF hx hlow hQ f (i1 + 1) os'' T' h hos2 n _ V' a' w' hsz' hcl' hlo2 hhi2 hn' h'⟩)
            | false =>
              obtain ⟨g, want, y, hg, hy, hwf⟩ := wantD_false hw
              exact sound_one hΓ hF hx ho hR (.inr ⟨g, want, y, hg, hy, hwf, fun V' a' w' h' => sound_drawEv hΓ hF hx hlow hQ f (i1 + 1) os'' _ h hos2 n _ V' a' w' hsz' hcl' hlo2 hhi2 hn' h'⟩)
    intro n l V a w hl hcl hlo hhi hn hR
    refine key n l V a w hl hcl hlo (fun j hj => hhi j (by omega)) hn ?_
    have : (new.filter fun r => l.getD r.i false) = [] := List.filter_eq_nil_iff.mpr fun r hr => by rw [hhi r.i (hidx r hr).1]; simp
    rw [this]; exact hR
theorem Rel.clear (ops : Array Oper) : ∀ (os : List Oper) (st : St), Rel B E X w0 V st a w → Rel B E X w0 V (st.clear ops os) a w
  | [], _, h => h
  | o :: os, st, h => by
    refine Rel.clear ops os _ ?_
    dsimp only
    split
    · exact h
    · split
      · rename_i d _; exact (h.killRow d).forget d
      · exact h
theorem sound_draw (hΓ : TysOk P c.Γ) (hF : FnsOk P c.G c.C) (hx : ∀ b, X b → b < B) (hm : P.follows .mixedOrders = true) {ops : Array Oper} {id : Nat} (hr : runDraw c ops st = some st') (h : Rel B E X w0 V st a w)
    (hQ : ∀ V' a' w', Rel B E X w0 V' st' a' w' → Q .normal a' w') : (Code.region id ops true).wp P Q a w := by
  unfold runDraw at hr
  split at hr
  case isFalse => cases hr
  rename_i hlow
  refine wp_region_any hm ?_
  have hf : ∀ j, (Array.replicate ops.size false).getD j false = false := fun j => by
    simp only [Array.getD_eq_getD_getElem?, Array.getElem?_replicate]
    split <;> rfl
  refine sound_drawEv hΓ hF hx hlow hQ _ 0 _ _ hr rfl ops.size _ V a _ (by simp) (fun j hj => by rw [hf] at hj; cases hj) (fun j hj => by omega) (fun j _ => hf j) ?_ ((Rel.clear _ _ _ h).world ⟨rfl, rfl, rfl, Nat.le_refl _, fun _ _ _ => rfl⟩ rfl)
  unfold unl
  refine Nat.le_trans (List.length_filter_le _ _) ?_
  simp
end
end Go.AM
end
section
namespace Go.AM
open Go.RowKit
set_option linter.unusedVariables false

def Slot.leaves : Slot → List Leaf
  | .val c => c.leaves
  | .tup cs => cs.flatMap Cmp.leaves
def Leaf.allKeys : Leaf → List Key
  | .own k | .win k _ _ | .ptr k _ | .ep k _ _ => [k]
  | .clo _ cap => cap
  | _ => []
def Ob.leaves : Ob → List Leaf
  | .box ls => ls
  | _ => []
def St.hasKeys (st : St) (ls : List Leaf) : Bool := ls.all fun l => l.allKeys.all fun k => (st.get k).isSome
def St.closedB (st : St) : Bool := st.sl.all (fun s => match s with | some s => st.hasKeys s.leaves | none => true) && st.ob.all (fun row => row.all fun o => match o with | some o => st.hasKeys o.leaves | none => true)
/-- the listed slots and rows alone -/
def St.only (st : St) (ss rs : List Nat) : St :=
  ⟨(List.range st.sl.length).map (fun i => if ss.contains i = true then st.slot i else none), (List.range st.ob.length).map (fun d => if rs.contains d = true then st.ob.getD d [] else [])⟩
section
variable {B : Nat} {E X : Nat → Prop} {w0 w w' : World} {V V' : Key → Value} {st st' : St} {a : Act}
theorem RLeaf_weak {S S' : Shp} {ok ok' : Nat → Prop} {l : Leaf} {v : Value} (h : RLeaf S V w ok l v) (hS : ∀ k ∈ l.allKeys, S' k = S k) (hok : ∀ b, ok b → ok' b) : RLeaf S' V w ok' l v := by
  cases l with
  | imm p => exact repT_mono (Same.refl _ _) hok _ _ _ h
  | own k => obtain ⟨e, r, n, hs⟩ := h; exact ⟨e, r, n, by rw [hS k (by simp [Leaf.allKeys])]; exact hs⟩
  | win k lo n => obtain ⟨r, m, hs, rest⟩ := h; exact ⟨r, m, by rw [hS k (by simp [Leaf.allKeys])]; exact hs, rest⟩
  | ptr k o => obtain ⟨hs, rest⟩ := h; exact ⟨by rw [hS k (by simp [Leaf.allKeys])]; exact hs, rest⟩
  | ep k i o => obtain ⟨r, m, g, cap, hs, rest⟩ := h; exact ⟨r, m, g, cap, by rw [hS k (by simp [Leaf.allKeys])]; exact hs, rest⟩
  | ip ls => exact RPtr_mono (Same.refl _ _) hok h
  | clo f cap => obtain ⟨e, hs⟩ := h; exact ⟨e, fun k hk => by rw [hS k hk]; exact hs k hk⟩
  | cl f caps => obtain ⟨vs, e, hc⟩ := h; exact ⟨vs, e, RCaps_mono (Same.refl _ _) hok _ _ hc⟩
  | emp r => exact h
  | dead => trivial
theorem RLs_weak {S S' : Shp} {ok ok' : Nat → Prop} (hok : ∀ b, ok b → ok' b) : ∀ (ls : List Leaf) (vs : List Value), RLs S V w ok ls vs → (∀ l ∈ ls, ∀ k ∈ l.allKeys, S' k = S k) → RLs S' V w ok' ls vs
  | [], _, h, _ => h
  | l :: ls, _, ⟨v, vs', e, h1, h2, h3⟩, hS => ⟨v, vs', e, RLeaf_weak h1 (hS l (by simp)) hok, h2, RLs_weak hok ls vs' h3 (fun l' hl' => hS l' (by simp [hl']))⟩
theorem RCmp_weak {S S' : Shp} {ok ok' : Nat → Prop} (hok : ∀ b, ok b → ok' b) {c : Cmp} {v : Value} (h : RCmp S V w ok c v) (hS : ∀ l ∈ c.leaves, ∀ k ∈ l.allKeys, S' k = S k) : RCmp S' V w ok' c v := by
  cases c with
  | one l => exact ⟨RLeaf_weak h.1 (hS l (by simp [Cmp.leaves])) hok, h.2⟩
  | agg ls => obtain ⟨vs, e, hr⟩ := h; exact ⟨vs, e, RLs_weak hok ls _ hr hS⟩
theorem RCs_weak {S S' : Shp} {ok ok' : Nat → Prop} (hok : ∀ b, ok b → ok' b) : ∀ (cs : List Cmp) (vs : List Value), RCs S V w ok cs vs → (∀ l ∈ cs.flatMap Cmp.leaves, ∀ k ∈ l.allKeys, S' k = S k) → RCs S' V w ok' cs vs
  | [], _, h, _ => h
  | c :: cs, _, ⟨v, vs', e, h1, h2⟩, hS => ⟨v, vs', e, RCmp_weak hok h1 (fun l hl => hS l (by rw [List.flatMap_cons]; exact List.mem_append.mpr (.inl hl))), RCs_weak hok cs vs' h2 (fun l hl => hS l (by rw [List.flatMap_cons]; exact List.mem_append.mpr (.inr hl)))⟩
theorem RSlot_weak {S S' : Shp} {ok ok' : Nat → Prop} (hok : ∀ b, ok b → ok' b) {s : Slot} {v : Value} (h : RSlot S V w ok s v) (hS : ∀ l ∈ s.leaves, ∀ k ∈ l.allKeys, S' k = S k) : RSlot S' V w ok' s v := by
  cases s with
  | val c => exact RCmp_weak hok h hS
  | tup cs => obtain ⟨vs, e, hr⟩ := h; exact ⟨vs, e, RCs_weak hok cs _ hr hS⟩
theorem Rel.weak (h : Rel B E X w0 V st a w) (hsl : st'.sl.length = st.sl.length) (hs : ∀ i s, st'.slot i = some s → st.slot i = some s) (hg : ∀ k o, st'.get k = some o → st.get k = some o)
    (c1 : ∀ i s, st'.slot i = some s → ∀ l ∈ s.leaves, ∀ k ∈ l.allKeys, (st'.get k).isSome = true) (c2 : ∀ q o, st'.get q = some o → ∀ l ∈ o.leaves, ∀ k ∈ l.allKeys, (st'.get k).isSome = true) : Rel B E X w0 V st' a w := by
  have hok : ∀ b, okOf X st V w b → okOf X st' V w b := fun b ⟨h1, h2, h3⟩ => ⟨h1, h2, fun k o hk => h3 k o (hg k o hk)⟩
  have hS : ∀ k, (st'.get k).isSome = true → st'.shp k = st.shp k := fun k hk => by
    obtain ⟨o, ho⟩ := Option.isSome_iff_exists.mp hk
    rw [shp_of ho, shp_of (hg k o ho)]
  refine ⟨h.keep, h.hB, h.defers, by rw [hsl]; exact h.size, fun i s hi => ?_, fun k o hk => ?_, fun k o b hk => h.blk k o b (hg k o hk), fun k k' o o' b hk hk' => h.inj k k' o o' b (hg k o hk) (hg k' o' hk')⟩
  · exact RSlot_weak hok (h.slots i s (hs i s hi)) (fun l hl k hk => hS k (c1 i s hi l hl k hk))
  · have := h.objs k o (hg k o hk)
    cases o with
    | arr e r xs =>
      obtain ⟨cells, h1, h2⟩ := this
      exact ⟨cells, h1, repRowsP_mono (fun x vs => repRow_mono (Same.refl _ _) hok r x vs) xs cells h2⟩
    | box ls =>
      obtain ⟨g, cs, t, e, hh, hr⟩ := this
      exact ⟨g, cs, t, e, hh, RLs_weak hok ls _ hr (fun l hl q hq => hS q (c2 k _ hk l hl q hq))⟩
theorem only_slot (ss rs : List Nat) (i : Nat) : (st.only ss rs).slot i = if ss.contains i = true then st.slot i else none := by
  unfold St.only St.slot
  simp only [List.getD_eq_getElem?_getD, List.getElem?_map]
  by_cases hi : i < st.sl.length
  · rw [List.getElem?_range hi]; rfl
  · rw [List.getElem?_eq_none (by simpa using hi), List.getElem?_eq_none (by omega)]
    split <;> rfl
theorem only_row (ss rs : List Nat) (d : Nat) : (st.only ss rs).ob.getD d [] = if rs.contains d = true then st.ob.getD d [] else [] := by
  unfold St.only
  simp only [List.getD_eq_getElem?_getD, List.getElem?_map]
  by_cases hi : d < st.ob.length
  · rw [List.getElem?_range hi]; rfl
  · rw [List.getElem?_eq_none (by simpa using hi), List.getElem?_eq_none (by omega)]
    split <;> rfl
theorem Rel.only (h : Rel B E X w0 V st a w) (ss rs : List Nat) (hc : (st.only ss rs).closedB = true) : Rel B E X w0 V (st.only ss rs) a w := by
  unfold St.closedB at hc
  simp only [Bool.and_eq_true] at hc
  have hk : ∀ (ls : List Leaf), (st.only ss rs).hasKeys ls = true → ∀ l ∈ ls, ∀ k ∈ l.allKeys, ((st.only ss rs).get k).isSome = true := fun ls hls l hl k hk =>
    List.all_eq_true.mp (List.all_eq_true.mp hls l hl) k hk
  refine h.weak (by simp [St.only]) (fun i s hi => ?_) (fun k o hk => ?_) (fun i s hi => ?_) (fun q o hq => ?_)
  · rw [only_slot] at hi
    split at hi
    · exact hi
    · cases hi
  · unfold St.get at hk ⊢
    rw [only_row] at hk
    split at hk
    · exact hk
    · cases hk
  · have hm : some s ∈ (st.only ss rs).sl := by
      unfold St.slot at hi
      rw [List.getD_eq_getElem?_getD] at hi
      cases hg : (st.only ss rs).sl[i]? with
      | none => rw [hg] at hi; cases hi
      | some y => rw [hg] at hi; simp only [Option.getD_some] at hi; subst hi; exact List.mem_of_getElem? hg
    exact hk s.leaves (List.all_eq_true.mp hc.1 _ hm)
  · have hm : ∃ row ∈ (st.only ss rs).ob, some o ∈ row := by
      unfold St.get at hq
      rw [List.getD_eq_getElem?_getD (l := (st.only ss rs).ob.getD q.1 [])] at hq
      cases hg : ((st.only ss rs).ob.getD q.1 [])[q.2]? with
      | none => rw [hg] at hq; cases hq
      | some y =>
        rw [hg] at hq; simp only [Option.getD_some] at hq; subst hq
        refine ⟨(st.only ss rs).ob.getD q.1 [], ?_, List.mem_of_getElem? hg⟩
        rw [List.getD_eq_getElem?_getD] at hg ⊢
        cases hg2 : (st.only ss rs).ob[q.1]? with
        | none => rw [hg2] at hg; simp at hg
        | some row => exact List.mem_of_getElem? hg2
    obtain ⟨row, h1, h2⟩ := hm
    exact hk o.leaves (List.all_eq_true.mp (List.all_eq_true.mp hc.2 row h1) _ h2)
end
end Go.AM
end
section
namespace Go.AM
open Go.RowKit
set_option linter.unusedVariables false

/-! ### loops' heads: what is live there -/
/-- what the listed slots lead to is turned no more -/
def St.frzS (st : St) (l : List Nat) : St := st.frzLs (l.flatMap fun i => match st.slot i with | some s => s.leaves | none => [])
/-- at a loop's head: the listed slots (false) and rows of objects (true) alone -/
def St.norm (an : Ann) (id : Nat) (e : Ex) (st : St) : St :=
  match an.keep id e with
  | some (fz, keep) => let s0 := st.frzS fz; let st' := s0.only ((keep.filter fun x => !x.2).map (·.1)) ((keep.filter fun x => x.2).map (·.1)); if st'.closedB = true then st' else st
  | none => st
def firstId : Code → Nat
  | .region id _ _ => id
  | .seq a _ => firstId a
  | .block _ b => firstId b
  | .loop b => firstId b
  | _ => 0

def loopEv (an : Ann) (id : Nat) (body : St → Option (Ex × St)) : Nat → St → Option (Ex × St)
  | 0, _ => none
  | n + 1, st => (body (st.norm an id .nrm)).bind fun x => match x.1 with
    | .nrm => loopEv an id body n x.2
    | e => some (e, x.2.norm an id e)
def blockEx (id : Nat) : Ex → Ex
  | .exit id' => if id' = id then .nrm else .exit id'
  | e => e
def ev (c : Ctx) (n : Nat) : Code → St → Option (Ex × St)
  | .skip, st => some (.nrm, st)
  | .label _, st => some (.nrm, st)
  | .region id ops draw, st => match draw with
    | false => (runOps c ops ops.toList st).map fun st => (.nrm, st)
    | true => (runDraw c ops st).map fun st => (.nrm, st)
  | .seq a b, st => (ev c n a st).bind fun x => match x.1 with
    | .nrm => ev c n b x.2
    | e => some (e, x.2)
  | .cond x t e, st => (st.opB c.Γ x).bind fun b => match b with
    | true => ev c n t st
    | false => ev c n e st
  | .block id b, st => (ev c n b st).map fun x => (blockEx id x.1, x.2)
  | .loop b, st => loopEv c.an (firstId b) (ev c n b) n st
  | .exit id, st => some (.exit id, st)
  | .ret, st => some (.ret, st)
  | _, _ => none
def Ex.to : Ex → Exit
  | .nrm => .normal
  | .exit id => .exit id
  | .ret => .ret

section
variable {P : Program} {c : Ctx} {B : Nat} {E X : Nat → Prop} {w0 w w' : World} {V V' : Key → Value} {st st' : St} {a : Act} {o : Oper} {Q : Exit → Act → World → Prop}
theorem Rel.frzLs (h : Rel B E X w0 V st a w) (ls : List Leaf) : Rel B E X w0 V (st.frzLs ls) a w := Rel.frzs _ h
theorem Rel.foldl {α : Type} (f : St → α → St) (hf : ∀ (st : St) (x : α), Rel B E X w0 V st a w → Rel B E X w0 V (f st x) a w) : ∀ (l : List α) (st : St), Rel B E X w0 V st a w → Rel B E X w0 V (l.foldl f st) a w
  | [], _, h => h
  | x :: l, st, h => Rel.foldl f hf l _ (hf st x h)
theorem Rel.norm (h : Rel B E X w0 V st a w) (an : Ann) (id : Nat) (e : Ex) : Rel B E X w0 V (st.norm an id e) a w := by
  unfold St.norm
  split
  · rename_i fz keep hk
    dsimp only
    split
    · rename_i hc; exact (h.frzLs _).only _ _ hc
    · exact h
  · exact h
def RelQ (B : Nat) (E X : Nat → Prop) (w0 : World) (Q : Exit → Act → World → Prop) (x : Ex × St) : Prop := ∀ V' a' w', Rel B E X w0 V' x.2 a' w' → Q x.1.to a' w'
theorem sound_loop (an : Ann) (id : Nat) (body : Code) (f : St → Option (Ex × St))
    (hb : ∀ st x, f st = some x → ∀ V a w, Rel B E X w0 V st a w → ∀ Q, RelQ B E X w0 Q x → body.wp P Q a w) : ∀ (n : Nat) (st : St) (x : Ex × St), loopEv an id f n st = some x → ∀ V a w, Rel B E X w0 V st a w → ∀ Q, RelQ B E X w0 Q x →
    ∀ (b : Frame) (k : List Item) (cs : List Frame), ∃ e a' w', Q e a' w' ∧ Arrives P (lone (b.at a (.code body :: .inLoop body :: k)) cs w) b k cs e a' w'
  | 0, st, x, hl, _, _, _, _, _, _ => by cases hl
  | n + 1, st, x, hl, V, a, w, h, Q, hQ => by
    intro b k cs
    unfold loopEv at hl
    obtain ⟨y, hy, hl⟩ := Option.bind_eq_some_iff.1 hl
    have ih := sound_loop an id body f hb n
    let Q' : Exit → Act → World → Prop := fun e a' w' => match e with
      | .normal => y.1 = .nrm ∧ ∃ V', Rel B E X w0 V' y.2 a' w'
      | e => Q e a' w' ∧ e ≠ .normal
    have hQ' : RelQ B E X w0 Q' y := by
      intro V' a' w' h'
      cases hy1 : y.1 with
      | nrm => exact ⟨hy1, V', h'⟩
      | exit i =>
        rw [hy1] at hl
        injection hl with hl; subst hl
        exact ⟨hQ V' a' w' (h'.norm an id _), by simp [Ex.to]⟩
      | ret =>
        rw [hy1] at hl
        injection hl with hl; subst hl
        exact ⟨hQ V' a' w' (h'.norm an id _), by simp [Ex.to]⟩
    obtain ⟨e, a₁, w₁, hq, harr⟩ := hb _ y hy V a w (h.norm an id .nrm) Q' hQ' b (.inLoop body :: k) cs
    cases e with
    | normal =>
      obtain ⟨hn, V', h'⟩ := hq
      rw [hn] at hl
      obtain ⟨e₂, a₂, w₂, hq₂, harr₂⟩ := ih y.2 x hl V' a₁ w₁ h' Q hQ b k cs
      exact ⟨e₂, a₂, w₂, hq₂, .of_steps (Steps.trans harr (.one step_inLoop)) harr₂⟩
    | exit id => exact ⟨_, a₁, w₁, hq.1, .pass (x := .inLoop body) rfl (fun _ _ => .inl (by simp)) harr⟩
    | goto l => exact ⟨_, a₁, w₁, hq.1, .pass (x := .inLoop body) rfl (fun _ _ => .inl (by simp)) harr⟩
    | ret => exact ⟨_, a₁, w₁, hq.1, .pass (x := .inLoop body) rfl (fun _ _ => .inl (by simp)) harr⟩
    | panic ch => exact ⟨_, a₁, w₁, hq.1, .pass (x := .inLoop body) rfl (fun _ _ => .inl (by simp)) harr⟩
    | outgrown => exact ⟨_, a₁, w₁, hq.1, .pass (x := .inLoop body) rfl (fun _ _ => .inl (by simp)) harr⟩
theorem sound_ev (hΓ : TysOk P c.Γ) (hF : FnsOk P c.G c.C) (hm : P.follows .mixedOrders = true) (hx : ∀ b, X b → b < B) (n : Nat) : ∀ (cd : Code) (st : St) (x : Ex × St), ev c n cd st = some x → ∀ V a w, Rel B E X w0 V st a w → ∀ Q, RelQ B E X w0 Q x → cd.wp P Q a w
  | .skip, st, x, he, V, a, w, h, Q, hQ => by
    injection he with he; subst he; exact wp_skip (hQ V a w h)
  | .label l, st, x, he, V, a, w, h, Q, hQ => by
    injection he with he; subst he; exact wp_label (hQ V a w h)
  | .region id ops draw, st, x, he, V, a, w, h, Q, hQ => by
    cases draw with
    | false =>
      obtain ⟨s, hs, rfl⟩ := Option.map_eq_some_iff.1 he
      exact sound_text hΓ hF hx hs h (fun V' a' w' h' => hQ V' a' w' h')
    | true =>
      obtain ⟨s, hs, rfl⟩ := Option.map_eq_some_iff.1 he
      exact sound_draw hΓ hF hx hm hs h (fun V' a' w' h' => hQ V' a' w' h')
  | .seq p q, st, x, he, V, a, w, h, Q, hQ => by
    obtain ⟨y, hy, he⟩ := Option.bind_eq_some_iff.1 he
    refine wp_seq (sound_ev hΓ hF hm hx n p st y hy V a w h _ (fun V' a' w' h' => ?_))
    cases hy1 : y.1 with
    | nrm =>
      rw [hy1] at he
      exact sound_ev hΓ hF hm hx n q y.2 x he V' a' w' h' Q hQ
    | exit i =>
      rw [hy1] at he
      injection he with he; subst he
      have := hQ V' a' w' h'
      exact this
    | ret =>
      rw [hy1] at he
      injection he with he; subst he
      exact hQ V' a' w' h'
  | .cond co t e, st, x, he, V, a, w, h, Q, hQ => by
    obtain ⟨b, hb, he⟩ := Option.bind_eq_some_iff.1 he
    have hc := h.opB hb
    cases b with
    | true => exact wp_cond_true hc (sound_ev hΓ hF hm hx n t st x he V a w h Q hQ)
    | false => exact wp_cond_false hc (sound_ev hΓ hF hm hx n e st x he V a w h Q hQ)
  | .block id p, st, x, he, V, a, w, h, Q, hQ => by
    obtain ⟨y, hy, rfl⟩ := Option.map_eq_some_iff.1 he
    refine wp_block (sound_ev hΓ hF hm hx n p st y hy V a w h _ (fun V' a' w' h' => ?_))
    have := hQ V' a' w' h'
    cases hy1 : y.1 with
    | nrm => rw [hy1] at this; exact this
    | exit i =>
      rw [hy1] at this
      show if i = id then _ else _
      simp only [blockEx] at this
      split
      · rename_i e; rw [if_pos e] at this; exact this
      · rename_i e; rw [if_neg e] at this; exact this
    | ret => rw [hy1] at this; exact this
  | .loop p, st, x, he, V, a, w, h, Q, hQ => fun b k cs => by
    obtain ⟨e, a', w', hq, harr⟩ := sound_loop c.an (firstId p) p (ev c n p) (fun st x hx' V a w h Q hQ => sound_ev hΓ hF hm hx n p st x hx' V a w h Q hQ) n st x he V a w h Q hQ b k cs
    exact ⟨e, a', w', hq, .of_steps (.one step_loop) harr⟩
  | .exit id, st, x, he, V, a, w, h, Q, hQ => by
    injection he with he; subst he; exact wp_exit (hQ V a w h)
  | .ret, st, x, he, V, a, w, h, Q, hQ => by
    injection he with he; subst he; exact wp_ret (hQ V a w h)
  | .rangeFunc .., st, x, he, V, a, w, h, Q, hQ => by cases he
  | .scope .., st, x, he, V, a, w, h, Q, hQ => by cases he
  | .goto .., st, x, he, V, a, w, h, Q, hQ => by cases he
  | .refuse .., st, x, he, V, a, w, h, Q, hQ => by cases he
end
end Go.AM
end
section
namespace Go.AM
open Go.RowKit
set_option linter.unusedVariables false

/-! ### where a function begins -/
def initOne (i : Nat) (par : Par) (pa : PA) : Option (Slot × List (Option Ob)) :=
  match par.kind, pa with
  | .one, .pls ps => (retC i par ps 0).map fun x => (.val x.1, x.2)
  | .agg, .pls ps => (retC i par ps 0).map fun x => (.val x.1, x.2)
  | .ptr, .pls ps => some (oneS (.ip ps), [])
  | .fn, .fn f caps => some (oneS (.cl f caps), [])
  | _, _ => none
def initAll : Nat → List Par → List PA → Option (List Slot × List (List (Option Ob)))
  | _, [], [] => some ([], [])
  | i, par :: pars, pa :: pas => (initOne i par pa).bind fun x => (initAll (i + 1) pars pas).map fun y => (x.1 :: y.1, x.2 :: y.2)
  | _, _, _ => none
def initSt (n : Nat) (x : List Slot × List (List (Option Ob))) : St := ⟨x.1.map some ++ List.replicate (n - x.1.length) none, x.2 ++ List.replicate (n - x.1.length) []⟩

theorem initOne_ok {w : World} {ok : Nat → Prop} {i : Nat} {par : Par} {pa : PA} {x : Slot × List (Option Ob)} {v : Value} {os : List Value} (hi : initOne i par pa = some x) (h : ACmp w ok par pa v os) :
    RowsOk w ok x.2 os ∧ ∀ (S : Shp) (V : Key → Value) (ok' : Nat → Prop), (∀ b, ok b → ok' b) → KeysOk S V i 0 os → RSlot S V w ok' x.1 v := by
  unfold initOne at hi
  split at hi
  · obtain ⟨y, hy, rfl⟩ := Option.map_eq_some_iff.1 hi
    exact retC_ok i hy h
  · obtain ⟨y, hy, rfl⟩ := Option.map_eq_some_iff.1 hi
    exact retC_ok i hy h
  · rename_i ps hk
    injection hi with hi; subst hi
    unfold ACmp at h; rw [hk] at h
    obtain ⟨rfl, hp⟩ := h
    refine ⟨⟨rfl, fun i v hv => by simp at hv⟩, fun S V ok' hok _ => ⟨RPtr_mono (Same.refl _ _) hok hp, ?_⟩⟩
    obtain ⟨ad, cells, e, _⟩ := hp
    rw [e]; rfl
  · rename_i f caps hk
    injection hi with hi; subst hi
    unfold ACmp at h; rw [hk] at h
    obtain ⟨rfl, vs, rfl, hc⟩ := h
    exact ⟨⟨rfl, fun i v hv => by simp at hv⟩, fun S V ok' hok _ => ⟨⟨vs, rfl, RCaps_mono (Same.refl _ _) hok _ _ hc⟩, rfl⟩⟩
  · cases hi
theorem initAll_ok {w : World} {ok : Nat → Prop} : ∀ (i : Nat) (pars : List Par) (pas : List PA) (x : List Slot × List (List (Option Ob))) (vs os : List Value), initAll i pars pas = some x → AArgs w ok pars pas vs os →
    ∃ wss : List (List Value), os = wss.flatten ∧ x.1.length = vs.length ∧ x.2.length = vs.length ∧ wss.length = vs.length ∧ (∀ j : Nat, RowsOk w ok (x.2.getD j []) (wss.getD j [])) ∧
      ∀ (S : Shp) (V : Key → Value) (ok' : Nat → Prop), (∀ b, ok b → ok' b) → (∀ j : Nat, KeysOk S V (i + j) 0 (wss.getD j [])) → ∀ (j : Nat) (s : Slot) (v : Value), x.1[j]? = some s → vs[j]? = some v → RSlot S V w ok' s v
  | i, [], pas, x, vs, os, hi, h => by
    obtain ⟨rfl, rfl, rfl⟩ := h
    injection hi with hi; subst hi
    exact ⟨[], rfl, rfl, rfl, rfl, fun j => ⟨by simp, fun i v hv => by simp at hv⟩, fun S V ok' _ _ j s v hs => by simp at hs⟩
  | i, par :: pars, pas, x, vs, os, hi, h => by
    obtain ⟨pa, pas', v, vs', o1, o2, rfl, rfl, rfl, hc, hs⟩ := h
    simp only [initAll, Option.bind_eq_some_iff, Option.map_eq_some_iff] at hi
    obtain ⟨y, hy, z, hz, rfl⟩ := hi
    obtain ⟨h1, h2⟩ := initOne_ok hy hc
    obtain ⟨wss, e1, e2, e3, e4, h3, h4⟩ := initAll_ok (i + 1) pars pas' z vs' o2 hz hs
    refine ⟨o1 :: wss, by simp [e1], by simp [e2], by simp [e3], by simp [e4], fun j => ?_, fun S V ok' hok hk j s u hsl hu => ?_⟩
    · cases j with
      | zero => exact h1
      | succ j => simpa using h3 j
    · cases j with
      | zero =>
        simp only [List.getElem?_cons_zero, Option.some.injEq] at hsl hu
        subst hsl; subst hu
        exact h2 S V ok' hok (hk 0)
      | succ j =>
        simp only [List.getElem?_cons_succ] at hsl hu
        refine h4 S V ok' hok (fun m => ?_) j s u hsl hu
        have := hk (m + 1)
        rw [show i + (m + 1) = i + 1 + m by omega] at this
        simpa using this
theorem getD_append_rep {α : Type} (l : List α) (n i : Nat) (d : α) : (l ++ List.replicate n d).getD i d = l.getD i d := by
  simp only [List.getD_eq_getElem?_getD, List.getElem?_append]
  split
  · rfl
  · rename_i h
    rw [List.getElem?_replicate, List.getElem?_eq_none (by omega : l.length ≤ i)]
    split <;> rfl
def diff2 (u v : Value) : Prop := ∀ b, blkOf u = some b → blkOf v ≠ some b
theorem apart_pair {os : List Value} (h : Apart os) : os.Pairwise diff2 := by
  rw [List.pairwise_iff_getElem]
  intro i j hi hj hij b h1 h2
  have := h i j b _ _ (List.getElem?_eq_getElem hi) (List.getElem?_eq_getElem hj) h1 h2
  omega
theorem rel_init {P : Program} {w : World} {okc : Nat → Prop} {sig : Sig} {args : List PA} {vs : Array Value} {os : List Value} {n : Nat} {x : List Slot × List (List (Option Ob))}
    (hok : ∀ b, okc b → b < w.heap.size ∧ ¬ BlkIn os b) (hlt : ∀ b, BlkIn os b → b < w.heap.size) (hap : Apart os) (ha : AArgs w okc sig.par args vs.toList os) (hi : initAll 0 sig.par args = some x) (hn : x.1.length ≤ n) :
    ∃ V, Rel w.heap.size (BlkIn os) (fun b => b < w.heap.size ∧ ¬ okc b ∧ ¬ BlkIn os b) w V (initSt n x) { tmps := vs ++ Array.replicate (n - vs.size) undef, defers := [] } w := by
  obtain ⟨wss, e1, e2, e3, e4, h3, h4⟩ := initAll_ok 0 sig.par args x vs.toList os hi ha
  let V : Key → Value := fun k => (wss.getD k.1 []).getD k.2 undef
  have hVv : ∀ (k : Key) v, (wss.getD k.1 [])[k.2]? = some v → V k = v := by
    intro k v hv
    show (wss.getD k.1 []).getD k.2 undef = v
    rw [List.getD_eq_getElem?_getD (l := wss.getD k.1 []), hv]; rfl
  have hget : ∀ k, (initSt n x).get k = (x.2.getD k.1 []).getD k.2 none := by
    intro k
    unfold St.get initSt
    rw [getD_append_rep]
  have hobj : ∀ k o, (initSt n x).get k = some o → ∃ v e r xs, (wss.getD k.1 [])[k.2]? = some v ∧ V k = v ∧ o = .arr e r xs ∧ OwnRep w okc e ⟨.sl r, xs⟩ v := by
    intro k o hk
    rw [hget] at hk
    have hj2 : (x.2.getD k.1 [])[k.2]? = some (some o) := by
      rw [List.getD_eq_getElem?_getD (l := x.2.getD k.1 [])] at hk
      cases hg : (x.2.getD k.1 [])[k.2]? with
      | none => rw [hg] at hk; cases hk
      | some y => rw [hg] at hk; simpa using hk
    have hl : k.2 < (wss.getD k.1 []).length := by rw [← (h3 k.1).1]; exact (List.getElem?_eq_some_iff.mp hj2).1
    obtain ⟨e, r, xs, h5, h6⟩ := (h3 k.1).2 k.2 _ (List.getElem?_eq_getElem hl)
    rw [h5] at hj2
    injection hj2 with hj2; injection hj2 with hj2
    exact ⟨_, e, r, xs, List.getElem?_eq_getElem hl, hVv k _ (List.getElem?_eq_getElem hl), hj2.symm, h6⟩
  have hin : ∀ (k : Key) v, (wss.getD k.1 [])[k.2]? = some v → v ∈ os := by
    intro k v hv
    rw [e1]
    refine List.mem_flatten.mpr ⟨wss.getD k.1 [], ?_, List.mem_of_getElem? hv⟩
    rw [List.getD_eq_getElem?_getD] at hv ⊢
    cases hg : wss[k.1]? with
    | none => rw [hg] at hv; simp at hv
    | some l => simpa using List.mem_of_getElem? hg
  have hblk : ∀ k o b, (initSt n x).get k = some o → blkOf (V k) = some b → BlkIn os b := by
    intro k o b hk hb
    obtain ⟨v, _, _, _, hv, e, _, _⟩ := hobj k o hk
    rw [e] at hb
    exact ⟨v, hin k v hv, hb⟩
  let st := initSt n x
  let X : Nat → Prop := fun b => b < w.heap.size ∧ ¬ okc b ∧ ¬ BlkIn os b
  have hokk : ∀ b, okc b → okOf X st V w b := fun b hb => ⟨(hok b hb).1, fun hx => hx.2.1 hb, fun k o hk hkb => (hok b hb).2 (hblk k o b hk hkb)⟩
  have hkeys : ∀ j : Nat, KeysOk st.shp V (0 + j) 0 (wss.getD j []) := by
    intro j i v hv
    rw [Nat.zero_add, Nat.zero_add]
    refine ⟨hVv (j, i) v hv, ?_⟩
    obtain ⟨e, r, xs, h5, _⟩ := (h3 j).2 i v hv
    refine ⟨r, xs.length, ?_⟩
    unfold St.shp
    rw [show st.get (j, i) = _ from hget (j, i)]
    simp only [List.getD_eq_getElem?_getD] at h5 ⊢
    rw [h5]; rfl
  have hsz : x.1.length = vs.size := by simpa using e2
  refine ⟨V, Keep.refl _ _ _, Nat.le_refl _, rfl, ?_, ?_, ?_, ?_, ?_⟩
  · simp [initSt, hsz]
  · intro i s hs
    have hs' : x.1[i]? = some s := by
      unfold St.slot initSt at hs
      rw [getD_append_rep] at hs
      simp only [List.getD_eq_getElem?_getD, List.getElem?_map] at hs
      cases hg : x.1[i]? with
      | none => rw [hg] at hs; cases hs
      | some y => rw [hg] at hs; simpa using hs
    have hilt : i < vs.size := by rw [← hsz]; exact (List.getElem?_eq_some_iff.mp hs').1
    have hv : ({ tmps := vs ++ Array.replicate (n - vs.size) undef, defers := [] } : Act).tmps.getD i undef = vs[i] := by
      simp [Array.getD_eq_getD_getElem?, Array.getElem?_append, hilt]
    rw [hv]
    exact h4 st.shp V _ hokk hkeys i s vs[i] hs' (by simp [hilt])
  · intro k o hk
    obtain ⟨v, e, r, xs, _, e5, rfl, r', xs', cells, e6, h6, h7⟩ := hobj k o hk
    injection e6 with e7 e8
    injection e7 with e7
    subst e7
    have e8 := eq_of_heq e8
    subst e8
    rw [e5]
    exact ⟨cells, h6, repRowsP_mono (fun x vs => repRow_mono (Same.refl _ _) hokk r x vs) xs cells h7⟩
  · intro k o b hk hb
    have := hblk k o b hk hb
    exact ⟨.inr this, hlt b this, fun hx => hx.2.2 this⟩
  · intro k k' o o' b hk hk' hb hb'
    obtain ⟨v, _, _, _, hv, ev, _, _⟩ := hobj k o hk
    obtain ⟨v', _, _, _, hv', ev', _, _⟩ := hobj k' o' hk'
    rw [ev] at hb; rw [ev'] at hb'
    have hp := apart_pair hap
    rw [e1, List.pairwise_flatten] at hp
    obtain ⟨hp1, hp2⟩ := hp
    have hlist : ∀ (q : Key) u, (wss.getD q.1 [])[q.2]? = some u → wss[q.1]? = some (wss.getD q.1 []) := by
      intro q u hu
      rw [List.getD_eq_getElem?_getD] at hu ⊢
      cases hg : wss[q.1]? with
      | none => rw [hg] at hu; simp at hu
      | some l => rfl
    have l1 := hlist k v hv
    have l2 := hlist k' v' hv'
    rw [List.pairwise_iff_getElem] at hp2
    obtain ⟨b1, b1'⟩ := List.getElem?_eq_some_iff.mp l1
    obtain ⟨b2, b2'⟩ := List.getElem?_eq_some_iff.mp l2
    rcases Nat.lt_trichotomy k.1 k'.1 with hlt' | heq | hgt
    · exact absurd hb' (hp2 k.1 k'.1 b1 b2 hlt' v (by rw [b1']; exact List.mem_of_getElem? hv) v' (by rw [b2']; exact List.mem_of_getElem? hv') b hb)
    · rw [← heq] at hv'
      have hin := hp1 (wss.getD k.1 []) (List.mem_of_getElem? l1)
      rw [List.pairwise_iff_getElem] at hin
      obtain ⟨c1, c1'⟩ := List.getElem?_eq_some_iff.mp hv
      obtain ⟨c2, c2'⟩ := List.getElem?_eq_some_iff.mp hv'
      rcases Nat.lt_trichotomy k.2 k'.2 with h5 | h5 | h5
      · exact absurd hb' (by have := hin k.2 k'.2 c1 c2 h5 b (by rw [c1']; exact hb); rwa [c2'] at this)
      · exact Prod.ext heq h5
      · exact absurd hb (by have := hin k'.2 k.2 c2 c1 h5 b (by rw [c2']; exact hb'); rwa [c1'] at this)
    · exact absurd hb (hp2 k'.1 k.1 b2 b1 hgt v' (by rw [b2']; exact List.mem_of_getElem? hv') v (by rw [b1']; exact List.mem_of_getElem? hv) b hb')
end Go.AM
end
section
namespace Go.AM
open Go.RowKit
set_option linter.unusedVariables false

def St.resVal (Γ : Tys) (st : St) : ResultVar → Option Cmp
  | .tmp t => match st.slot t with
    | some (.val c) => some c
    | _ => none
  | .cell t ty => match st.slot t with
    | some (.val (.one l)) => (Γ.get ty).bind fun ti => (st.leavesAt l).bind fun ls => cmpOf ti ls
    | _ => none
def St.resOne (st : St) (par : Par) (c : Cmp) : Option (List PL × List Key × List Key) :=
  match par.kind, c with
  | .one, .one l => st.argLs par.md par.els [l]
  | .agg, .agg ls => st.argLs par.md par.els ls
  | _, _ => none
def St.resAll (Γ : Tys) (st : St) : List Par → List ResultVar → Option (List (List PL) × List Key × List Key)
  | [], [] => some ([], [], [])
  | par :: pars, v :: vs => (st.resVal Γ v).bind fun c => (st.resOne par c).bind fun x => (st.resAll Γ pars vs).map fun y => (x.1 :: y.1, x.2.1 ++ y.2.1, x.2.2 ++ y.2.2)
  | _, _ => none
def fnEnd (Γ : Tys) (sig : Sig) (rs : List ResultVar) (y : Ex × St) : Option (List (List PL)) :=
  match y.1 with
  | .exit _ => none
  | _ => (y.2.resAll Γ sig.res rs).bind fun z => if z.2.2.Nodup ∧ (∀ k ∈ z.2.2, ¬ k ∈ z.2.1) then some z.1 else none
def fnEv (c : Ctx) (n : Nat) (fn : Func) (sig : Sig) (args : List PA) : Option (List (List PL)) :=
  (initAll 0 sig.par args).bind fun x =>
    if x.1.length ≤ fn.ntmps then
      match fn.body with
      | some b => (ev c n b (initSt fn.ntmps x)).bind (fnEnd c.Γ sig fn.results.toList)
      | none => none
    else none

section
variable {P : Program} {Γ : Tys} {c : Ctx} {B : Nat} {E X : Nat → Prop} {w0 w w' : World} {V V' : Key → Value} {st st' : St} {a : Act} {o : Oper} {Q : Exit → Act → World → Prop}
def resRun (tmps : Array Value) : ResultVar → Sem Value
  | .tmp t => pure (tmps.getD t undef)
  | .cell x t => do loadVar t (← asAddr (tmps.getD x undef))
theorem Rel.resVal (hΓ : TysOk P Γ) (h : Rel B E X w0 V st a w) {r : ResultVar} {cm : Cmp} (hr : st.resVal Γ r = some cm) : ∃ v, (resRun a.tmps r).run P w = .ok v w ∧ RCmp st.shp V w (okOf X st V w) cm v := by
  unfold St.resVal at hr
  split at hr
  · rename_i t
    split at hr
    · rename_i c2 hs
      injection hr with hr; subst hr
      exact ⟨_, rfl, h.slots t _ hs⟩
    · cases hr
  · rename_i t ty
    split at hr
    · rename_i l hs
      simp only [Option.bind_eq_some_iff] at hr
      obtain ⟨ti, hti, ls, hls, hc⟩ := hr
      obtain ⟨ad, vs, e, hrl, hcell⟩ := leavesAt_rep h hls (h.slots t _ hs).1
      obtain ⟨v, hv, hcv⟩ := cmpOf_load hΓ hti hc hrl ad hcell
      refine ⟨v, ?_, hcv⟩
      show (do loadVar ty (← asAddr (a.tmps.getD t undef)) : Sem Value).run P w = _
      rw [e]
      show (do loadVar ty (← (pure ad : Sem Addr)) : Sem Value).run P w = _
      rw [Sem.run_bind]
      exact hv
    · cases hr
theorem Rel.resOne (h : Rel B E X w0 V st a w) {bk : List Key} {par : Par} {cm : Cmp} {y : List PL × List Key × List Key} (hy : st.resOne par cm = some y) (hb : ∀ k ∈ y.2.1, k ∈ bk) {v : Value} (hv : RCmp st.shp V w (okOf X st V w) cm v) :
    ACmp w (okB X st V w bk) par (.pls y.1) v (y.2.2.map V) ∧ ∀ k ∈ y.2.2, ∃ o, st.get k = some o := by
  unfold St.resOne at hy
  split at hy
  · rename_i l hk
    obtain ⟨i1, i2⟩ := h.argLs par.md par.els [l] y [v] hy ⟨_, [], rfl, hv.1, hv.2, rfl⟩ hb
    exact ⟨by unfold ACmp; rw [hk]; exact ⟨argLs_one hy, i1⟩, i2⟩
  · rename_i ls hk
    obtain ⟨vs, e, hr⟩ := hv
    obtain ⟨i1, i2⟩ := h.argLs par.md par.els ls y vs.toList hy hr hb
    exact ⟨by unfold ACmp; rw [hk]; exact ⟨vs, e, i1⟩, i2⟩
  · cases hy
theorem Rel.resAll (hΓ : TysOk P Γ) (h : Rel B E X w0 V st a w) {bk : List Key} : ∀ (pars : List Par) (rs : List ResultVar) (y : List (List PL) × List Key × List Key), st.resAll Γ pars rs = some y → (∀ k ∈ y.2.1, k ∈ bk) →
    ∃ vs, (rs.mapM (resRun a.tmps)).run P w = .ok vs w ∧ AArgs w (okB X st V w bk) pars (y.1.map .pls) vs (y.2.2.map V) ∧ ∀ k ∈ y.2.2, ∃ o, st.get k = some o
  | [], [], y, hy, _ => by
    unfold St.resAll at hy
    injection hy with hy; subst hy
    exact ⟨[], rfl, ⟨rfl, rfl, rfl⟩, fun k hk => by cases hk⟩
  | [], _ :: _, y, hy, _ => by simp [St.resAll] at hy
  | _ :: _, [], y, hy, _ => by simp [St.resAll] at hy
  | par :: pars, r :: rs, y, hy, hb => by
    simp only [St.resAll, Option.bind_eq_some_iff, Option.map_eq_some_iff] at hy
    obtain ⟨cm, hcm, x, hx, z, hz, rfl⟩ := hy
    obtain ⟨v, hv, hcv⟩ := h.resVal hΓ hcm
    obtain ⟨i1, i2⟩ := h.resOne (bk := bk) hx (fun k hk => hb k (List.mem_append.mpr (.inl hk))) hcv
    obtain ⟨vs, h3, h4, h5⟩ := h.resAll hΓ pars rs z hz (fun k hk => hb k (List.mem_append.mpr (.inr hk)))
    refine ⟨v :: vs, ?_, ⟨_, _, v, vs, _, _, rfl, rfl, by simp, i1, h4⟩, fun k hk => ?_⟩
    · rw [List.mapM_cons, Sem.run_bind, hv]
      simp only [Result.andThen_ok, Sem.run_bind, h3]
      rfl
    · rcases List.mem_append.mp hk with hk | hk
      · exact i2 k hk
      · exact h5 k hk
theorem run_results {fn : Func} {tmps : Array Value} {vs : List Value} (h : (fn.results.toList.mapM (resRun tmps)).run P w = .ok vs w) : (results fn tmps).run P w = .ok (tupOf vs) w := by
  have e : (results fn tmps) = (do let vs ← fn.results.mapM (resRun tmps); pure (if h : vs.size = 1 then vs[0] else .tuple vs) : Sem Value) := by
    unfold results
    congr 2
  rw [e, Sem.run_bind, Array.mapM_eq_mapM_toList, Sem.run_map, h]
  simp only [Result.andThen_ok]
  match vs with
  | [] => rfl
  | [v] => rfl
  | v :: u :: vs => simp [tupOf, go_sem]
theorem spec_fn (hΓ : TysOk P c.Γ) (hF : FnsOk P c.G c.C) (hm : P.follows .mixedOrders = true) {f : FuncId} {fn : Func} (hf : P.funcs[f]? = some fn) (n : Nat) (sig : Sig) : Spec P sig (fnEv c n fn sig) f := by
  intro args outs hev w vs os okc hok hlt hap ha
  unfold fnEv at hev
  obtain ⟨x, hx, hev⟩ := Option.bind_eq_some_iff.1 hev
  split at hev
  case isFalse => cases hev
  rename_i hn
  split at hev
  case h_2 => cases hev
  rename_i body hb
  obtain ⟨y, hy, hend⟩ := Option.bind_eq_some_iff.1 hev
  obtain ⟨V, hR⟩ := rel_init (P := P) hok hlt hap ha hx hn
  refine calls_of_wp hf hb ?_
  refine sound_ev hΓ hF hm (fun b hb => hb.1) n body _ y hy V _ _ hR _ ?_
  intro V' a' w' h'
  have key : ∀ z : List (List PL) × List Key × List Key, y.2.resAll c.Γ sig.res fn.results.toList = some z → z.2.2.Nodup → (∀ k ∈ z.2.2, ¬ k ∈ z.2.1) → z.1 = outs → a'.defers = [] ∧ ∃ v, (results fn a'.tmps).run P w' = .ok v w' ∧ Post sig okc os w outs (.returned v) w' := by
    intro z hz hnd hdis hzo
    obtain ⟨rs, h1, h2, h3⟩ := h'.resAll hΓ (bk := z.2.1) _ _ z hz (fun _ hk => hk)
    refine ⟨h'.defers, _, run_results h1, tupOf rs, rs, z.2.2.map V', _, rfl, rfl, hzo ▸ h2, h'.keep, fun b hb => ⟨hb.1, ?_⟩, ?_, ?_⟩
    · rcases Nat.lt_or_ge b w.heap.size with h4 | h4
      · have := hb.2.1
        rcases Classical.em (okc b) with h5 | h5
        · exact .inl h5
        · rcases Classical.em (BlkIn os b) with h6 | h6
          · exact .inr (.inr h6)
          · exact absurd ⟨h4, h5, h6⟩ this
      · exact .inr (.inl h4)
    · intro i j b u v hi hj hu hv
      rw [List.getElem?_map] at hi hj
      obtain ⟨ki, g1, rfl⟩ := Option.map_eq_some_iff.1 hi
      obtain ⟨kj, g2, rfl⟩ := Option.map_eq_some_iff.1 hj
      obtain ⟨oi, hoi⟩ := h3 ki (List.mem_of_getElem? g1)
      obtain ⟨oj, hoj⟩ := h3 kj (List.mem_of_getElem? g2)
      have e := h'.inj ki kj oi oj b hoi hoj hu hv
      subst e
      exact (List.getElem?_inj (List.getElem?_eq_some_iff.mp g1).1 hnd).mp (g1.trans g2.symm)
    · intro b hb
      obtain ⟨k, hk, hkb⟩ := BlkIn_map.mp hb
      obtain ⟨ok, hok'⟩ := h3 k hk
      obtain ⟨g1, g2, _⟩ := h'.blk k ok b hok' hkb
      exact ⟨fun hh => hdis k hk (hh.2.2 k ok hok' hkb), g2, g1⟩
  unfold fnEnd at hend
  cases hy1 : y.1 with
  | exit i => rw [hy1] at hend; cases hend
  | nrm =>
    rw [hy1] at hend
    obtain ⟨z, hz, hend⟩ := Option.bind_eq_some_iff.1 hend
    split at hend
    · rename_i hc; injection hend with hend; exact key z hz hc.1 hc.2 hend
    · cases hend
  | ret =>
    rw [hy1] at hend
    obtain ⟨z, hz, hend⟩ := Option.bind_eq_some_iff.1 hend
    split at hend
    · rename_i hc; injection hend with hend; exact key z hz hc.1 hc.2 hend
    · cases hend
/-- what is known of a program -/
structure Know where
  Γ : Tys
  G : FuncId → Option Sig
  F : FuncId → Option Func
  X : FuncId → Option Fn
  an : FuncId → Ann
def Know.ev (k : Know) : Nat → FuncId → Fn
  | 0, _ => fun _ => none
  | n + 1, f => match k.X f with
    | some F => F
    | none => match k.G f, k.F f with
      | some sig, some fn => fnEv ⟨k.Γ, k.G, k.ev n, k.an f⟩ n fn sig
      | _, _ => fun _ => none
structure KnowOk (P : Program) (k : Know) : Prop where
  tys : TysOk P k.Γ
  mixed : P.follows .mixedOrders = true
  fns : ∀ f fn, k.F f = some fn → P.funcs[f]? = some fn
  has : ∀ f sig, k.G f = some sig → ∃ fn c, P.funcs[f]? = some fn ∧ (fn.name == "runtime.NumGoroutine") = false ∧ fn.body = some c
  ext : ∀ f F sig, k.X f = some F → k.G f = some sig → Spec P sig F f
theorem know_ok {k : Know} (h : KnowOk P k) : ∀ n, FnsOk P k.G (k.ev n)
  | 0 => ⟨h.has, fun f sig hG args outs ha => by cases ha⟩
  | n + 1 => ⟨h.has, fun f sig hG => by
    unfold Know.ev
    split
    · rename_i F hX; exact h.ext f F sig hX hG
    · rw [hG]
      split
      · rename_i sig' fn h1 h2
        injection h1 with h1; subst h1
        exact spec_fn h.tys (know_ok h n) h.mixed (h.fns f fn h2) n sig
      · intro args outs ha; cases ha⟩
end
end Go.AM
end
section
namespace Go.AM
open Go.RowKit
set_option linter.unusedVariables false

inductive Tr (α : Type) : Type 1 where
  | fail
  | ret (a : α)
  | br (b : Bool) (t e : Tr α)
  | opt {β : Type} (x : Option β) (f : β → Tr α)
  | sum {β γ : Type} (x : β ⊕ γ) (f : β → Tr α) (g : γ → Tr α)
namespace Tr
variable {α β : Type}
def run : Tr α → Option α
  | fail => none
  | ret a => some a
  | br b t e => cond b (run t) (run e)
  | opt x f => x.bind fun b => run (f b)
  | sum x f g => Sum.elim (fun b => run (f b)) (fun c => run (g c)) x
def bind : Tr α → (α → Tr β) → Tr β
  | fail, _ => fail
  | ret a, f => f a
  | br b t e, f => br b (bind t f) (bind e f)
  | opt x f, g => opt x fun b => bind (f b) g
  | sum x f g, h => sum x (fun b => bind (f b) h) (fun c => bind (g c) h)
def of : Option α → Tr α
  | some a => ret a
  | none => fail
def chk : Option (Bool × α) → Tr α
  | some x => br x.1 (ret x.2) fail
  | none => fail
theorem run_bind : ∀ (t : Tr α) (f : α → Tr β), (t.bind f).run = t.run.bind fun a => (f a).run
  | fail, _ => rfl
  | ret _, _ => rfl
  | br b t e, f => by
    cases b with
    | true => exact run_bind t f
    | false => exact run_bind e f
  | opt x f, g => by
    cases x with
    | none => rfl
    | some b => exact run_bind (f b) g
  | sum x f g, h => by
    cases x with
    | inl b => exact run_bind (f b) h
    | inr c => exact run_bind (g c) h
theorem run_of (x : Option α) : (of x).run = x := by cases x <;> rfl
theorem run_chk {x : Option (Bool × α)} {a : α} (h : (chk x).run = some a) : x = some (true, a) := by
  cases x with
  | none => cases h
  | some y =>
    obtain ⟨b, a'⟩ := y
    cases b with
    | true => injection h with h; subst h; rfl
    | false => cases h
theorem run_br {b : Bool} {t e : Tr α} {a : α} (h : (br b t e).run = some a) : (b = true ∧ t.run = some a) ∨ (b = false ∧ e.run = some a) := by
  cases b with
  | true => exact .inl ⟨rfl, h⟩
  | false => exact .inr ⟨rfl, h⟩
end Tr

/-! ### steps under a condition -/
def binIT (op : BinOp) (k : IntKind) (a b : Int) : Option (Bool × Slot) :=
  match op with
  | .quo => some (!decide (b = 0), intS k (k.wrap (a.tdiv b)))
  | .rem => some (!decide (b = 0), intS k (a.tmod b))
  | op => (binI op k a b).map fun s => (true, s)
def binST (op : BinOp) (x y : ByteArray) : Option (Bool × Slot) :=
  match op with
  | .add => some (decide (x.size + y.size ≤ 9223372036854775807), .val (.one (.imm ⟨.str, x ++ y⟩)))
  | op => (binS op x y).map fun s => (true, s)
def evBinT (bo : Bool) (op : BinOp) (x y : PL) : Option (Bool × Slot) :=
  match x, y with
  | ⟨.int k, a⟩, ⟨.int k', b⟩ => if k = k' then binIT op k a b else none
  | ⟨.str, a⟩, ⟨.str, b⟩ => binST op a b
  | x, y => (evBin bo op x y).map fun s => (true, s)
theorem binIT_ok {op : BinOp} {k : IntKind} {a b : Int} {s : Slot} (h : binIT op k a b = some (true, s)) : binI op k a b = some s := by
  unfold binIT at h
  split at h
  · simp only [Option.some.injEq, Prod.mk.injEq, Bool.not_eq_true', decide_eq_false_iff_not] at h
    obtain ⟨h1, rfl⟩ := h
    simp only [binI]; rw [if_neg h1]
  · simp only [Option.some.injEq, Prod.mk.injEq, Bool.not_eq_true', decide_eq_false_iff_not] at h
    obtain ⟨h1, rfl⟩ := h
    simp only [binI]; rw [if_neg h1]
  · obtain ⟨s', h1, h2⟩ := Option.map_eq_some_iff.1 h
    injection h2 with _ h2; subst h2; exact h1
theorem binST_ok {op : BinOp} {x y : ByteArray} {s : Slot} (h : binST op x y = some (true, s)) : binS op x y = some s := by
  unfold binST at h
  split at h
  · simp only [Option.some.injEq, Prod.mk.injEq, decide_eq_true_eq] at h
    obtain ⟨h1, rfl⟩ := h
    simp only [binS]; rw [if_pos h1]
  · obtain ⟨s', h1, h2⟩ := Option.map_eq_some_iff.1 h
    injection h2 with _ h2; subst h2; exact h1
theorem evBinT_ok {bo : Bool} {op : BinOp} {x y : PL} {s : Slot} (h : evBinT bo op x y = some (true, s)) : evBin bo op x y = some s := by
  unfold evBinT at h
  split at h
  · unfold evBin
    simp only
    split at h
    · rename_i e; rw [if_pos e]; exact binIT_ok h
    · cases h
  · exact binST_ok h
  · obtain ⟨s', h1, h2⟩ := Option.map_eq_some_iff.1 h
    injection h2 with _ h2; subst h2; exact h1
def St.binOpT (Γ : Tys) (st : St) (dst : Option Tmp) (op : BinOp) (ty : TypeId) (x y : Operand) : Option (Bool × St) :=
  (st.pureS Γ ty x).bind fun p => (st.pureS Γ ty y).bind fun q => (evBinT (Γ.isBool ty) op p q).map fun s => (s.1, st.putS dst (some s.2))
def St.indexT (Γ : Tys) (st : St) (dst : Option Tmp) (ty : TypeId) (x ix : Operand) : Option (Bool × St) :=
  match st.opd Γ ty x with
  | some (.val (.one (.imm ⟨.str, s⟩))) => if Γ.isStr ty = true then (st.opI Γ ix).map fun i => (decide (0 ≤ i) && decide (i < (s.size : Int)), st.putS dst (some (intS .u8 (bt s i.toNat)))) else none
  | _ => none
def St.elemT (st : St) (sz : Nat) (i : Int) : Leaf → Option (Bool × Leaf)
  | .own k => match st.get k with
    | some (.arr _ r xs) => if sz = r.len then some (decide (0 ≤ i) && decide (i < (xs.length : Int)), .ep k i.toNat 0) else none
    | _ => none
  | .win k lo n => match st.get k with
    | some (.arr _ r xs) => if sz = r.len then some (decide (0 ≤ i) && decide (i < (n : Int)), .ep k (lo + i.toNat) 0) else none
    | _ => none
  | .imm ⟨.sl r, xs⟩ => if sz = r.len then some (decide (0 ≤ i) && decide (i < (xs.length : Int)), .ip (splitRow r (xs.getD i.toNat r.dflt))) else none
  | _ => none
def St.indexAddrT (Γ : Tys) (st : St) (dst : Option Tmp) (t : TypeId) (x ix : Operand) : Option (Bool × St) :=
  match Γ.elem t with
  | some (_, ti) => (st.opI Γ ix).bind fun i =>
    match st.opd Γ t x with
    | some (.val (.one l)) => (st.elemT ti.size i l).map fun l' => (l'.1, st.putS dst (some (oneS l'.2)))
    | _ => none
  | none => (Γ.arrT t).bind fun p => (Γ.get p.2).bind fun ti => (st.opI Γ ix).bind fun i =>
    match st.opd Γ 0 x with
    | some (.val (.one l)) => (moveL (i.toNat * ti.size) l).map fun l' => (decide (0 ≤ i) && decide (i < (p.1 : Int)), st.putS dst (some (oneS l')))
    | _ => none
theorem binOpT_ok {Γ : Tys} {st st' : St} {dst : Option Tmp} {op : BinOp} {ty : TypeId} {x y : Operand} (h : st.binOpT Γ dst op ty x y = some (true, st')) : st.binOp Γ dst op ty x y = some st' := by
  unfold St.binOpT at h
  unfold St.binOp
  simp only [Option.bind_eq_some_iff, Option.map_eq_some_iff, Prod.mk.injEq] at h ⊢
  obtain ⟨p, hp, q, hq, ⟨b, s⟩, hs, rfl, rfl⟩ := h
  exact ⟨p, hp, q, hq, s, evBinT_ok hs, rfl⟩
theorem indexT_ok {Γ : Tys} {st st' : St} {dst : Option Tmp} {ty : TypeId} {x ix : Operand} (h : st.indexT Γ dst ty x ix = some (true, st')) : st.index Γ dst ty x ix = some st' := by
  unfold St.indexT at h
  unfold St.index
  split at h
  · rename_i s hl
    split at h
    · rename_i hh
      rw [hl]
      simp only [if_pos hh]
      simp only [Option.map_eq_some_iff, Prod.mk.injEq, Bool.and_eq_true, decide_eq_true_eq] at h
      obtain ⟨i, hi, hc, rfl⟩ := h
      exact Option.bind_eq_some_iff.2 ⟨i, hi, by rw [if_pos hc]⟩
    · cases h
  · cases h
theorem elemT_ok {st : St} {sz : Nat} {i : Int} {l l' : Leaf} (h : st.elemT sz i l = some (true, l')) : st.elemL sz i l = some l' := by
  cases l
  case own k =>
    simp only [St.elemT] at h
    simp only [St.elemL]
    cases hk : st.get k with
    | none => rw [hk] at h; cases h
    | some ob =>
      rw [hk] at h
      cases ob with
      | box ls => cases h
      | arr e r xs =>
        simp only at h ⊢
        split at h
        · rename_i hs
          simp only [Option.some.injEq, Prod.mk.injEq, Bool.and_eq_true, decide_eq_true_eq] at h
          rw [if_pos hs, if_pos h.1, h.2]
        · cases h
  case win k lo n =>
    simp only [St.elemT] at h
    simp only [St.elemL]
    cases hk : st.get k with
    | none => rw [hk] at h; cases h
    | some ob =>
      rw [hk] at h
      cases ob with
      | box ls => cases h
      | arr e r xs =>
        simp only at h ⊢
        split at h
        · rename_i hs
          simp only [Option.some.injEq, Prod.mk.injEq, Bool.and_eq_true, decide_eq_true_eq] at h
          rw [if_pos hs, if_pos h.1, h.2]
        · cases h
  case imm p =>
    obtain ⟨t, x⟩ := p
    cases t
    case sl r =>
      simp only [St.elemT] at h
      simp only [St.elemL]
      split at h
      · rename_i hs
        simp only [Option.some.injEq, Prod.mk.injEq, Bool.and_eq_true, decide_eq_true_eq] at h
        rw [if_pos hs, if_pos h.1, h.2]
      · cases h
    all_goals cases h
  all_goals cases h
theorem indexAddrT_ok {Γ : Tys} {st st' : St} {dst : Option Tmp} {t : TypeId} {x ix : Operand} (h : st.indexAddrT Γ dst t x ix = some (true, st')) : st.indexAddr Γ dst t x ix = some st' := by
  unfold St.indexAddrT at h
  unfold St.indexAddr
  cases hel : Γ.elem t with
  | some q =>
    obtain ⟨e, ti⟩ := q
    rw [hel] at h
    simp only [Option.bind_eq_some_iff] at h ⊢
    obtain ⟨i, hi, h⟩ := h
    refine ⟨i, hi, ?_⟩
    split at h
    · rename_i l hl
      rw [hl]
      simp only [Option.map_eq_some_iff, Prod.mk.injEq] at h ⊢
      obtain ⟨⟨b, l'⟩, h1, h2, h3⟩ := h
      simp only at h2
      subst h2
      exact ⟨l', elemT_ok h1, h3⟩
    · cases h
  | none =>
    rw [hel] at h
    simp only [Option.bind_eq_some_iff] at h ⊢
    obtain ⟨p, hp, ti, hti2, i, hi, h⟩ := h
    refine ⟨p, hp, ti, hti2, i, hi, ?_⟩
    split at h
    · rename_i l hl
      simp only [Option.map_eq_some_iff, Prod.mk.injEq, Bool.and_eq_true, decide_eq_true_eq] at h
      obtain ⟨l', h1, h2, h3⟩ := h
      rw [if_pos h2, hl]
      exact Option.map_eq_some_iff.2 ⟨l', h1, h3⟩
    · cases h
end Go.AM
end
section
namespace Go.AM
open Go.RowKit
set_option linter.unusedVariables false

def St.appendT (Γ : Tys) (st : St) (dst : Option Tmp) (t : TypeId) (x y : Operand) : Option (Bool × St) :=
  dst.bind fun d => (Γ.elem t).bind fun p =>
    if p.2.row.isSome = true ∧ d < (st.killRow d).ob.length then
      match (st.killRow d).opd Γ t x with
      | some (.val (.one (.own k))) =>
        match (st.killRow d).get k with
        | some (.arr e r xs) =>
          if e = p.1 ∧ r.len = p.2.size ∧ 0 < p.2.bytes then
            ((st.killRow d).pureS Γ t y).bind fun q => (castT q.t (.sl r) q.x).map fun ys =>
              (decide ((xs.length + ys.length) * p.2.bytes ≤ 140737488355328), (((st.killRow d).kill k).setRow d [some (.arr e r (xs ++ ys))]).putS dst (some (oneS (.own (d, 0)))))
          else none
        | _ => none
      | _ => none
    else none
theorem appendT_ok {Γ : Tys} {st st' : St} {dst : Option Tmp} {t : TypeId} {x y : Operand} (h : st.appendT Γ dst t x y = some (true, st')) : st.append Γ dst t x y = some st' := by
  unfold St.appendT at h
  unfold St.append
  simp only [Option.bind_eq_some_iff] at h ⊢
  obtain ⟨d, hd, p, hp, h⟩ := h
  refine ⟨d, hd, p, hp, ?_⟩
  split at h
  case isFalse => cases h
  rename_i hc
  rw [if_pos hc]
  split at h
  case h_2 => cases h
  rename_i k hl
  rw [hl]
  simp only
  split at h
  case h_2 => cases h
  rename_i e r xs hk
  rw [hk]
  simp only
  split at h
  case isFalse => cases h
  rename_i hs
  rw [if_pos hs]
  simp only [Option.bind_eq_some_iff, Option.map_eq_some_iff, Prod.mk.injEq, decide_eq_true_eq] at h ⊢
  obtain ⟨q, hq, ys, hys, hlim, h⟩ := h
  exact ⟨q, hq, ys, hys, by rw [if_pos hlim, h]⟩
def St.appendNilT (Γ : Tys) (st : St) (dst : Option Tmp) (t : TypeId) (y : Operand) : Option (Bool × St) :=
  dst.bind fun d => (Γ.elem t).bind fun p => p.2.row.bind fun r =>
    if d < (st.killRow d).ob.length ∧ r.len = p.2.size ∧ 0 < p.2.bytes then
      ((st.killRow d).pureS Γ t y).bind fun q => (castT q.t (.sl r) q.x).map fun ys =>
        (decide (ys.length * p.2.bytes ≤ 140737488355328), ((st.killRow d).setRow d [some (.arr p.1 r ys)]).putS dst (some (oneS (.own (d, 0)))))
    else none
theorem appendNilT_ok {Γ : Tys} {st st' : St} {dst : Option Tmp} {t : TypeId} {y : Operand} (h : st.appendNilT Γ dst t y = some (true, st')) : st.appendNil Γ dst t y = some st' := by
  unfold St.appendNilT at h
  unfold St.appendNil
  simp only [Option.bind_eq_some_iff] at h ⊢
  obtain ⟨d, hd, p, hp, r, hr, h⟩ := h
  refine ⟨d, hd, p, hp, r, hr, ?_⟩
  split at h
  case isFalse => cases h
  rename_i hc
  rw [if_pos hc]
  simp only [Option.bind_eq_some_iff, Option.map_eq_some_iff, Prod.mk.injEq, decide_eq_true_eq] at h ⊢
  obtain ⟨q, hq, ys, hys, hlim, h⟩ := h
  exact ⟨q, hq, ys, hys, by rw [if_pos hlim, h]⟩
def St.makeSliceT (Γ : Tys) (st : St) (dst : Option Tmp) (t : TypeId) (l c : Operand) : Option (Bool × St) :=
  dst.bind fun d => (Γ.elem t).bind fun p => p.2.row.bind fun r =>
    ((st.killRow d).opI Γ l).bind fun n => ((st.killRow d).opI Γ c).bind fun m =>
    if d < (st.killRow d).ob.length then
      some (decide (0 ≤ n) && (decide (n ≤ m) && (decide ((p.2.bytes : Int) * m ≤ 140737488355328) && decide (m ≤ 9223372036854775807))),
        ((st.killRow d).setRow d [some (.arr p.1 r (List.replicate n.toNat r.dflt))]).putS dst (some (oneS (.own (d, 0)))))
    else none
theorem makeSliceT_ok {Γ : Tys} {st st' : St} {dst : Option Tmp} {t : TypeId} {l c : Operand} (h : st.makeSliceT Γ dst t l c = some (true, st')) : st.makeSlice Γ dst t l c = some st' := by
  unfold St.makeSliceT at h
  unfold St.makeSlice
  simp only [Option.bind_eq_some_iff] at h ⊢
  obtain ⟨d, hd, p, hp, r, hr, n, hn, m, hm, h⟩ := h
  refine ⟨d, hd, p, hp, r, hr, n, hn, m, hm, ?_⟩
  split at h
  case isFalse => cases h
  rename_i hc
  simp only [Option.some.injEq, Prod.mk.injEq, Bool.and_eq_true, decide_eq_true_eq] at h
  rw [if_pos hc, if_pos h.1, h.2]
def St.sliceT (cut : Nat → Bool) (Γ : Tys) (st : St) (dst : Option Tmp) (t : TypeId) (x : Operand) (lo hi mx : Option Operand) : Option (Bool × St) :=
  if mx.isSome = true then none else
  match st.opd Γ t x with
  | some (.val (.one (.imm ⟨.str, s⟩))) => if Γ.isStr t = true then
      (st.optI Γ 0 lo).bind fun l => (st.optI Γ (s.size : Int) hi).map fun h => (decide (0 ≤ l) && (decide (l ≤ h) && decide (h ≤ (s.size : Int))), st.putS dst (some (oneS (.imm ⟨.str, s.extract l.toNat h.toNat⟩))))
    else none
  | some (.val (.one l0)) => (Γ.elem t).bind fun p => (st.lenL l0).bind fun n =>
      (st.optI Γ 0 lo).bind fun l => (st.optI Γ (n : Int) hi).bind fun h =>
        ((match dst, l0 with
        | some d, .own k => if cut d = true then (if lo.isNone = true ∧ d < (st.killRow d).ob.length then
            match (st.killRow d).opd Γ t x, (st.killRow d).get k with
            | some (.val (.one (.own k'))), some (.arr e r xs) => if k' = k ∧ r.len = p.2.size then some (decide (h.toNat ≤ xs.length), (((st.killRow d).kill k).setRow d [some (.arr e r (xs.take h.toNat))]).putS dst (some (oneS (.own (d, 0))))) else none
            | _, _ => none else none)
          else (st.cutL p.2.size l.toNat (h.toNat - l.toNat) l0).map fun l' => (true, st.putS dst (some (oneS l')))
        | _, _ => (st.cutL p.2.size l.toNat (h.toNat - l.toNat) l0).map fun l' => (true, st.putS dst (some (oneS l')))) : Option (Bool × St)).map fun z =>
          (decide (0 ≤ l) && (decide (l ≤ h) && (decide (h ≤ (n : Int)) && z.1)), z.2)
  | _ => none
theorem sliceT_ok {cut : Nat → Bool} {Γ : Tys} {st st' : St} {dst : Option Tmp} {t : TypeId} {x : Operand} {lo hi mx : Option Operand} (h : st.sliceT cut Γ dst t x lo hi mx = some (true, st')) : st.slice cut Γ dst t x lo hi mx = some st' := by
  unfold St.sliceT at h
  unfold St.slice
  split at h
  case isTrue => cases h
  rename_i hm
  rw [if_neg hm]
  split at h
  · rename_i s hl
    rw [hl]
    simp only
    split at h
    · rename_i hs
      rw [if_pos hs]
      simp only [Option.bind_eq_some_iff, Option.map_eq_some_iff, Prod.mk.injEq, Bool.and_eq_true, decide_eq_true_eq] at h ⊢
      obtain ⟨l, h1, hh, h2, h3, h4⟩ := h
      exact ⟨l, h1, hh, h2, by rw [if_pos h3, h4]⟩
    · cases h
  · rename_i l0 hno hl
    rw [hl]
    simp only [Option.bind_eq_some_iff, Option.map_eq_some_iff] at h
    obtain ⟨p, hp, n, hn, l, hl1, hh, hh1, z, hz, h⟩ := h
    simp only [Prod.mk.injEq, Bool.and_eq_true, decide_eq_true_eq] at h
    obtain ⟨⟨g1, g2, g3, g4⟩, rfl⟩ := h
    split
    · rename_i s heq
      simp only [Option.some.injEq, Slot.val.injEq, Cmp.one.injEq] at heq
      exact absurd heq (hno s)
    · rename_i l1 _ heq
      simp only [Option.some.injEq, Slot.val.injEq, Cmp.one.injEq] at heq
      subst heq
      simp only [Option.bind_eq_some_iff]
      refine ⟨p, hp, n, hn, l, hl1, hh, hh1, ?_⟩
      rw [if_pos ⟨g1, g2, g3⟩]
      split at hz
      · rename_i d k
        simp only
        split at hz
        · rename_i hcut
          rw [if_pos hcut]
          split at hz
          · rename_i hlo
            rw [if_pos hlo]
            split at hz
            · rename_i k' e r xs h5 h6
              rw [h5, h6]
              simp only
              split at hz
              · rename_i hkk
                injection hz with hz
                subst hz
                rw [if_pos ⟨hkk.1, hkk.2, by simpa using g4⟩]
              · cases hz
            · cases hz
          · cases hz
        · rename_i hcut
          rw [if_neg hcut]
          obtain ⟨l', h5, rfl⟩ := Option.map_eq_some_iff.1 hz
          exact Option.map_eq_some_iff.2 ⟨l', h5, rfl⟩
      · rename_i hno2
        obtain ⟨l', h5, rfl⟩ := Option.map_eq_some_iff.1 hz
        split
        · exact absurd rfl (hno2 _ _ rfl)
        · exact Option.map_eq_some_iff.2 ⟨l', h5, rfl⟩
    · rename_i hno3; exact absurd rfl (hno3 l0)
  · cases h
end Go.AM
end
section
namespace Go.AM
open Go.RowKit
set_option linter.unusedVariables false

/-- what is known of the functions that are called: a condition, and the results under it -/
abbrev FnT := List PA → Option (Bool × List (List PL))
def CpOk (CP : FuncId → FnT) (C : FuncId → Fn) : Prop := ∀ f a outs, CP f a = some (true, outs) → C f a = some outs
def St.callT (Γ : Tys) (G : FuncId → Option Sig) (CP : FuncId → FnT) (st : St) (dst : Option Tmp) (d : Nat) (c : Call) : Option (Bool × St) :=
  let st0 := st.killRow d
  (st0.callee Γ c.callee).bind fun f =>
  (G f.1).bind fun sig =>
  (st0.args Γ (sig.par.take c.args.size) c.args.toList c.argTypes.toList).bind fun a =>
  if d < st0.ob.length ∧ (sig.par.drop c.args.size).all isPtr = true ∧ (sig.par.drop c.args.size).length = f.2.1.length ∧ a.2.2.Nodup ∧ (∀ k ∈ a.2.2, ¬ k ∈ f.2.2 ++ a.2.1) then
    (CP f.1 (a.1 ++ f.2.1.map .pls)).bind fun outs =>
    (retCs d sig.res outs.2 0).bind fun x =>
    if aliasCs sig.res outs.2 = true then
      (if (f.2.2 ++ a.2.1).any st0.isBox = true then none else some (outs.1, ((f.2.2 ++ a.2.1).foldl St.frz st0).back d dst a.2.2 x))
    else some (outs.1, st0.back d dst a.2.2 x)
  else none
theorem callT_ok {Γ : Tys} {G : FuncId → Option Sig} {CP : FuncId → FnT} {C : FuncId → Fn} (hC : CpOk CP C) {st st' : St} {dst : Option Tmp} {d : Nat} {c : Call} (h : st.callT Γ G CP dst d c = some (true, st')) : st.call Γ G C dst d c = some st' := by
  unfold St.callT at h
  unfold St.call
  simp only [Option.bind_eq_some_iff] at h ⊢
  obtain ⟨f, hf, sig, hG, y, hy, h⟩ := h
  refine ⟨f, hf, sig, hG, y, hy, ?_⟩
  split at h
  case isFalse => cases h
  rename_i hc
  rw [if_pos hc]
  simp only [Option.bind_eq_some_iff] at h ⊢
  obtain ⟨⟨b, outs⟩, ho, x, hx, h⟩ := h
  have key : b = true ∧ (if aliasCs sig.res outs = true then (if (f.2.2 ++ y.2.1).any (st.killRow d).isBox = true then none else some (((f.2.2 ++ y.2.1).foldl St.frz (st.killRow d)).back d dst y.2.2 x)) else some ((st.killRow d).back d dst y.2.2 x)) = some st' := by
    simp only at h
    split at h
    · rename_i hal
      split at h
      · cases h
      · rename_i hb
        injection h with h; injection h with h1 h2
        exact ⟨h1, by rw [if_pos hal, if_neg hb, h2]⟩
    · rename_i hal
      injection h with h; injection h with h1 h2
      exact ⟨h1, by rw [if_neg hal, h2]⟩
  obtain ⟨rfl, key⟩ := key
  exact ⟨outs, hC _ _ _ ho, x, hx, key⟩
def St.callDT (Γ : Tys) (G : FuncId → Option Sig) (CP : FuncId → FnT) (st : St) (dst : Option Tmp) (d : Nat) (c : Call) : Option (Bool × St) :=
  let st0 := st.killRow d
  (st0.callee Γ c.callee).bind fun f =>
  (G f.1).bind fun sig =>
  (st0.args Γ (sig.par.take c.args.size) c.args.toList c.argTypes.toList).bind fun a =>
  if d < st0.ob.length ∧ (sig.par.drop c.args.size).all isPtr = true ∧ (sig.par.drop c.args.size).length = f.2.1.length ∧ a.2.2.isEmpty = true then
    (CP f.1 (a.1 ++ f.2.1.map .pls)).bind fun outs =>
    (retCs d sig.res outs.2 0).bind fun x =>
    if aliasCs sig.res outs.2 = true then
      (if (f.2.2 ++ a.2.1).isEmpty = true then some (outs.1, (st0.setRow d x.2).putS dst (some (retS x.1))) else none)
    else some (outs.1, (st0.setRow d x.2).putS dst (some (retS x.1)))
  else none
theorem callDT_ok {Γ : Tys} {G : FuncId → Option Sig} {CP : FuncId → FnT} {C : FuncId → Fn} (hC : CpOk CP C) {st st' : St} {dst : Option Tmp} {d : Nat} {c : Call} (h : st.callDT Γ G CP dst d c = some (true, st')) : st.callD Γ G C dst d c = some st' := by
  unfold St.callDT at h
  unfold St.callD
  simp only [Option.bind_eq_some_iff] at h ⊢
  obtain ⟨f, hf, sig, hG, y, hy, h⟩ := h
  refine ⟨f, hf, sig, hG, y, hy, ?_⟩
  split at h
  case isFalse => cases h
  rename_i hc
  rw [if_pos hc]
  simp only [Option.bind_eq_some_iff] at h ⊢
  obtain ⟨⟨b, outs⟩, ho, x, hx, h⟩ := h
  have key : b = true ∧ (if aliasCs sig.res outs = true then (if (f.2.2 ++ y.2.1).isEmpty = true then some (((st.killRow d).setRow d x.2).putS dst (some (retS x.1))) else none) else some (((st.killRow d).setRow d x.2).putS dst (some (retS x.1)))) = some st' := by
    simp only at h
    split at h
    · rename_i hal
      split at h
      · rename_i hb
        injection h with h; injection h with h1 h2
        exact ⟨h1, by rw [if_pos hal, if_pos hb, h2]⟩
      · cases h
    · rename_i hal
      injection h with h; injection h with h1 h2
      exact ⟨h1, by rw [if_neg hal, h2]⟩
  obtain ⟨rfl, key⟩ := key
  exact ⟨outs, hC _ _ _ ho, x, hx, key⟩

/-! ### truth values that are known where they are asked for -/
abbrev Kn := List (Nat × Bool)
def Kn.drop (kn : Kn) (dst : Option Tmp) : Kn := match dst with | some d => kn.filter fun x => !(x.1 == d) | none => kn
def Kn.add (kn : Kn) (x : Operand) (b : Bool) : Kn := match x with | .tmp t => (t, b) :: kn.filter fun x => !(x.1 == t) | _ => kn
def Kn.of (kn : Kn) : Operand → Option Bool
  | .tmp t => (kn.find? fun x => x.1 == t).map (·.2)
  | .const (.bool b) => some b
  | _ => none
def Kn.copy (kn : Kn) (dst : Option Tmp) (k : Option Bool) : Kn := match k, dst with
  | some b, some d => (d, b) :: kn.drop (some d)
  | _, _ => kn.drop dst
def Tr.brK {α : Type} (k : Option Bool) (b : Bool) (t e : Tr α) : Tr α :=
  match k with
  | none => .br b t e
  | some true => .br b t .fail
  | some false => .br b .fail e
theorem Tr.run_brK {α : Type} {k : Option Bool} {b : Bool} {t e : Tr α} {a : α} (h : (Tr.brK k b t e).run = some a) : (b = true ∧ t.run = some a) ∨ (b = false ∧ e.run = some a) := by
  unfold Tr.brK at h
  split at h
  · exact Tr.run_br h
  · rcases Tr.run_br h with h | h
    · exact .inl h
    · cases h.2
  · rcases Tr.run_br h with h | h
    · cases h.2
    · exact .inr h
structure CtxT where
  Γ : Tys
  G : FuncId → Option Sig
  CP : FuncId → FnT
  an : Ann
  /-- what a loop does, by its first region: a condition, and how it ends under it -/
  LP : Nat → St → Tr (Ex × St)
def CtxT.to (c : CtxT) (C : FuncId → Fn) : Ctx := ⟨c.Γ, c.G, C, c.an⟩
def St.callBT (Γ : Tys) (st : St) (dst : Option Tmp) (b : Builtin) (xs : List Operand) (ts : List TypeId) : Option (Bool × St) :=
  match b, xs, ts with
  | .len, [x], ty :: _ => (st.len Γ dst ty x).map fun s => (true, s)
  | .append, [x, y], [t, t'] => if t = t' then (if st.isEmp Γ t x = true then st.appendNilT Γ dst t y else st.appendT Γ dst t x y) else none
  | _, _, _ => none
/-- a step of which there is one outcome, under a condition -/
def St.stepC (c : CtxT) (st : St) (o : Oper) : Option (Bool × St) :=
  match o.op with
  | .makeSlice t l m => st.makeSliceT c.Γ o.dst t l m
  | .binOp op ty x y _ => st.binOpT c.Γ o.dst op ty x y
  | .slice t x l h m => st.sliceT c.an.cut c.Γ o.dst t x l h m
  | .indexAddr t x i => st.indexAddrT c.Γ o.dst t x i
  | .index t x i => st.indexT c.Γ o.dst t x i
  | .call cl => match cl.callee, o.dst with
    | .builtin b, dst => st.callBT c.Γ dst b cl.args.toList cl.argTypes.toList
    | .value _, some d => st.callT c.Γ c.G c.CP (some d) d cl
    | _, _ => none
  | _ => (st.step (c.to fun _ _ => none) o).map fun s => (true, s)
theorem stepC_ok {c : CtxT} {C : FuncId → Fn} (hC : CpOk c.CP C) {st st' : St} {o : Oper} (h : st.stepC c o = some (true, st')) : st.step (c.to C) o = some st' := by
  have hother : ∀ x : Option St, (x.map fun s => (true, s)) = some (true, st') → x = some st' := fun x hx => by
    obtain ⟨s, h1, h2⟩ := Option.map_eq_some_iff.1 hx
    injection h2 with _ h2; subst h2; exact h1
  unfold St.stepC at h
  cases ho : o.op <;> rw [ho] at h <;> simp only at h
  case makeSlice t l m => unfold St.step; rw [ho]; exact makeSliceT_ok h
  case binOp op ty x y t2 => unfold St.step; rw [ho]; exact binOpT_ok h
  case slice t x l hh m => unfold St.step; rw [ho]; exact sliceT_ok h
  case indexAddr t x i => unfold St.step; rw [ho]; exact indexAddrT_ok h
  case index t x i => unfold St.step; rw [ho]; exact indexT_ok h
  case call cl =>
    unfold St.step
    rw [ho]
    simp only
    split at h
    · rename_i b hb
      rw [hb]
      simp only
      unfold St.callBT at h
      unfold St.callB
      split at h
      · rename_i h1 h2
        rw [h1, h2]; exact hother _ h
      · rename_i t t' h1 h2
        rw [h1, h2]
        simp only
        split at h
        · rename_i e
          rw [if_pos e]
          split at h
          · rename_i hn; show (if St.isEmp c.Γ st t _ = true then _ else _) = _; rw [if_pos hn]; exact appendNilT_ok h
          · rename_i hn; show (if St.isEmp c.Γ st t _ = true then _ else _) = _; rw [if_neg hn]; exact appendT_ok h
        · cases h
      · cases h
    · rename_i x d hx hd
      rw [hx, hd]
      exact callT_ok hC h
    · cases h
  all_goals
    (have h1 := hother _ h
     unfold St.step at h1 ⊢
     rw [ho] at h1 ⊢
     exact h1)
end Go.AM
end
section
namespace Go.AM
open Go.RowKit
set_option linter.unusedVariables false

/-- in a branch in which a slot's truth value is known -/
def St.know (st : St) (x : Operand) (v : Bool) : St :=
  match x with
  | .tmp t => match st.slot t with
    | some (.val (.one (.imm ⟨.bool, _⟩))) => st.putS (some t) (some (boolS v))
    | _ => st
  | _ => st
theorem set_same {α : Type} (l : List (Option α)) (t : Nat) (s : α) (h : l.getD t none = some s) : l.set t (some s) = l := by
  apply List.ext_getElem?
  intro i
  rw [List.getElem?_set]
  split
  · rename_i e
    subst e
    rw [List.getD_eq_getElem?_getD] at h
    split
    · rename_i hl
      rw [List.getElem?_eq_getElem hl] at h ⊢
      simp only [Option.getD_some] at h
      rw [h]
    · rename_i hl
      rw [List.getElem?_eq_none (by omega)]
  · rfl
theorem know_slot {st : St} {t : Nat} {b : Bool} (h : st.slot t = some (boolS b)) : st.know (.tmp t) b = st := by
  unfold St.know
  simp only [h, boolS]
  unfold St.putS
  show (⟨st.sl.set t (some (boolS b)), st.ob⟩ : St) = st
  rw [set_same st.sl t _ h]
theorem know_opB {Γ : Tys} {st : St} {x : Operand} {b : Bool} (h : st.opB Γ x = some b) : st.know x b = st := by
  cases x with
  | tmp t =>
    refine know_slot ?_
    unfold St.opB St.opd at h
    simp only at h
    split at h
    · rename_i b' hs
      injection h with h; subst h; exact hs
    · cases h
  | _ => rfl
def pickT (c : CtxT) (kn : Kn) (st : St) (dst : Option Tmp) (ty : TypeId) (b x y : Operand) : Tr (St × Kn) :=
  match st.opB c.Γ b with
  | none => .fail
  | some v => Tr.brK (kn.of b) v ((Tr.of ((st.know b true).opd c.Γ ty x)).bind fun s => .ret ((st.know b true).putS dst (some s), kn.copy dst (kn.of x))) ((Tr.of ((st.know b false).opd c.Γ ty y)).bind fun s => .ret ((st.know b false).putS dst (some s), kn.copy dst (kn.of y)))
theorem pickT_ok {c : CtxT} {kn kn' : Kn} {st st' : St} {dst : Option Tmp} {ty : TypeId} {b x y : Operand} (h : (pickT c kn st dst ty b x y).run = some (st', kn')) : st.pick c.Γ dst ty b x y = some st' := by
  unfold pickT at h
  unfold St.pick
  split at h
  · cases h
  · rename_i v hv
    have key : ∀ z : Operand, ((Tr.of (st.opd c.Γ ty z)).bind fun s => (.ret (st.putS dst (some s), kn.copy dst (kn.of z)) : Tr (St × Kn))).run = some (st', kn') → ∃ s, st.opd c.Γ ty z = some s ∧ st.putS dst (some s) = st' := fun z hz => by
      rw [Tr.run_bind, Tr.run_of] at hz
      obtain ⟨s, h1, h2⟩ := Option.bind_eq_some_iff.1 hz
      injection h2 with h2; injection h2 with h2 _
      exact ⟨s, h1, h2⟩
    refine Option.bind_eq_some_iff.2 ⟨v, hv, ?_⟩
    rcases Tr.run_brK h with ⟨rfl, h'⟩ | ⟨rfl, h'⟩ <;> rw [know_opB hv] at h'
    · obtain ⟨s, h1, h2⟩ := key x h'
      exact Option.map_eq_some_iff.2 ⟨s, h1, h2⟩
    · obtain ⟨s, h1, h2⟩ := key y h'
      exact Option.map_eq_some_iff.2 ⟨s, h1, h2⟩
def knOf (kn : Kn) (o : Oper) : Kn := match o.op with | .move x | .assign x => kn.copy o.dst (kn.of x) | _ => kn.drop o.dst
def stepT (c : CtxT) (kn : Kn) (st : St) (o : Oper) : Tr (St × Kn) :=
  match o.op with
  | .pick b x y => pickT c kn st o.dst o.type b x y
  | _ => (Tr.chk (st.stepC c o)).bind fun s => .ret (s, knOf kn o)
theorem stepT_ok {c : CtxT} {C : FuncId → Fn} (hC : CpOk c.CP C) {kn kn' : Kn} {st st' : St} {o : Oper} (h : (stepT c kn st o).run = some (st', kn')) : st.step (c.to C) o = some st' := by
  unfold stepT at h
  split at h
  · rename_i b x y ho
    unfold St.step; rw [ho]; exact pickT_ok h
  · rw [Tr.run_bind] at h
    obtain ⟨s, h1, h2⟩ := Option.bind_eq_some_iff.1 h
    injection h2 with h2; injection h2 with h2 _; subst h2
    exact stepC_ok hC (Tr.run_chk h1)
def gslot (ops : Array Oper) (g : Nat) : Operand := match (ops[g]?).bind (·.dst) with | some t => .tmp t | none => .const (.tuple #[])
theorem know_yield {E : St} {ops : Array Oper} {g : Nat} {b : Bool} (h : E.yield ops g = some (some b)) : E.know (gslot ops g) b = E := by
  unfold St.yield at h
  unfold gslot
  split at h
  · rename_i t ht
    rw [ht]
    simp only
    split at h
    · rename_i b' hs
      injection h with h; injection h with h; subst h
      exact know_slot hs
    · cases h
    · cases h
  · cases h
/-- a guard's branches: what is done if it is wanted, what if not -/
def guardT {α : Type} (ops : Array Oper) (kn : Kn) (E : St) (g : Nat) (want : Bool) (f : Bool → Kn → St → Tr α) : Tr α :=
  match E.yield ops g with
  | none => .fail
  | some none => f false kn E
  | some (some b) => Tr.brK (kn.of (gslot ops g)) b (f (wantOf (some true) want) (kn.add (gslot ops g) true) (E.know (gslot ops g) true)) (f (wantOf (some false) want) (kn.add (gslot ops g) false) (E.know (gslot ops g) false))
theorem guardT_ok {α : Type} {ops : Array Oper} {kn : Kn} {E : St} {g : Nat} {want : Bool} {f : Bool → Kn → St → Tr α} {a : α} (h : (guardT ops kn E g want f).run = some a) : ∃ y kn', E.yield ops g = some y ∧ (f (wantOf y want) kn' E).run = some a := by
  unfold guardT at h
  split at h
  · cases h
  · rename_i hy; exact ⟨none, kn, hy, h⟩
  · rename_i b hy
    rcases Tr.run_brK h with ⟨rfl, h'⟩ | ⟨rfl, h'⟩ <;> rw [know_yield hy] at h'
    · exact ⟨_, _, hy, h'⟩
    · exact ⟨_, _, hy, h'⟩
def runOpsT (c : CtxT) (ops : Array Oper) : List Oper → St → Kn → Tr (St × Kn)
  | [], st, kn => .ret (st, kn)
  | o :: os, st, kn => match o.guard with
    | none => (stepT c kn st o).bind fun x => runOpsT c ops os x.1 x.2
    | some (g, want) => guardT ops kn st g want fun w kn st => match w with
      | true => (stepT c kn st o).bind fun x => runOpsT c ops os x.1 x.2
      | false => runOpsT c ops os (st.skipS o.dst) (kn.drop o.dst)
theorem runOpsT_ok {c : CtxT} {C : FuncId → Fn} (hC : CpOk c.CP C) {ops : Array Oper} : ∀ (os : List Oper) (st : St) (kn : Kn) (x : St × Kn), (runOpsT c ops os st kn).run = some x → runOps (c.to C) ops os st = some x.1
  | [], st, kn, x, h => by injection h with h; subst h; rfl
  | o :: os, st, kn, x, h => by
    unfold runOpsT at h
    unfold runOps
    have hstep : ∀ kn, ((stepT c kn st o).bind fun x => runOpsT c ops os x.1 x.2).run = some x → (st.step (c.to C) o).bind (runOps (c.to C) ops os) = some x.1 := fun kn h => by
      rw [Tr.run_bind] at h
      obtain ⟨y, h1, h2⟩ := Option.bind_eq_some_iff.1 h
      exact Option.bind_eq_some_iff.2 ⟨y.1, stepT_ok hC h1, runOpsT_ok hC os y.1 y.2 x h2⟩
    split at h
    · rename_i hg
      simp only [hg]
      exact hstep kn h
    · rename_i g want hg
      simp only [hg]
      obtain ⟨y, kn', hy, h⟩ := guardT_ok h
      refine Option.bind_eq_some_iff.2 ⟨y, hy, ?_⟩
      cases hw : wantOf y want with
      | true => rw [hw] at h; exact hstep kn' h
      | false => rw [hw] at h; exact runOpsT_ok hC os _ _ x h

/-! ### drawn regions -/
def stepDT (c : CtxT) (kn : Kn) (st : St) (o : Oper) : Tr (St × Kn) :=
  match o.dst with
  | none => .fail
  | some d => match o.op with
    | .pick b x y => pickT c kn st (some d) o.type b x y
    | .binOp op ty x y _ => (Tr.chk (st.binOpT c.Γ (some d) op ty x y)).bind fun s => .ret (s, knOf kn o)
    | .indexAddr t x i => (Tr.chk (st.indexAddrT c.Γ (some d) t x i)).bind fun s => .ret (s, knOf kn o)
    | .index t x i => (Tr.chk (st.indexT c.Γ (some d) t x i)).bind fun s => .ret (s, knOf kn o)
    | .call cl => match cl.callee with
      | .builtin .append => match cl.args.toList, cl.argTypes.toList with
        | [x, y], [t, t'] => if t = t' then (if st.isEmp c.Γ t x = true then (Tr.chk (st.appendNilT c.Γ (some d) t y)).bind fun s => .ret (s, knOf kn o) else .fail) else .fail
        | _, _ => .fail
      | .value _ => (Tr.chk (st.callDT c.Γ c.G c.CP (some d) d cl)).bind fun s => .ret (s, knOf kn o)
      | _ => (Tr.of (st.stepD (c.to fun _ _ => none) o)).bind fun s => .ret (s, knOf kn o)
    | _ => (Tr.of (st.stepD (c.to fun _ _ => none) o)).bind fun s => .ret (s, knOf kn o)
theorem stepDT_ok {c : CtxT} {C : FuncId → Fn} (hC : CpOk c.CP C) {kn kn' : Kn} {st st' : St} {o : Oper} (h : (stepDT c kn st o).run = some (st', kn')) : st.stepD (c.to C) o = some st' := by
  have hchk : ∀ (x : Option (Bool × St)), ((Tr.chk x).bind fun s => (.ret (s, knOf kn o) : Tr (St × Kn))).run = some (st', kn') → x = some (true, st') := fun x hx => by
    rw [Tr.run_bind] at hx
    obtain ⟨s, h1, h2⟩ := Option.bind_eq_some_iff.1 hx
    injection h2 with h2; injection h2 with h2 _; subst h2
    exact Tr.run_chk h1
  have hof : ∀ (x : Option St), ((Tr.of x).bind fun s => (.ret (s, knOf kn o) : Tr (St × Kn))).run = some (st', kn') → x = some st' := fun x hx => by
    rw [Tr.run_bind, Tr.run_of] at hx
    obtain ⟨s, h1, h2⟩ := Option.bind_eq_some_iff.1 hx
    injection h2 with h2; injection h2 with h2 _; subst h2
    exact h1
  unfold stepDT at h
  split at h
  · cases h
  · rename_i d hd
    cases ho : o.op <;> rw [ho] at h <;> simp only at h
    case pick b x y => unfold St.stepD; rw [hd, ho]; exact pickT_ok h
    case binOp op ty x y t2 => unfold St.stepD; rw [hd, ho]; exact binOpT_ok (hchk _ h)
    case indexAddr t x i => unfold St.stepD; rw [hd, ho]; exact indexAddrT_ok (hchk _ h)
    case index t x i => unfold St.stepD; rw [hd, ho]; exact indexT_ok (hchk _ h)
    case call cl =>
      unfold St.stepD
      rw [hd, ho]
      simp only
      split at h
      · rename_i hc
        rw [hc]
        simp only
        unfold St.callBD
        split at h
        · rename_i x y t t' h1 h2
          rw [h1, h2]
          simp only
          split at h
          · rename_i e
            rw [if_pos e]
            split at h
            · rename_i hn; show (if St.isEmp c.Γ st t _ = true then _ else _) = _; rw [if_pos hn]; exact appendNilT_ok (hchk _ h)
            · cases h
          · cases h
        · cases h
      · rename_i x hc
        rw [hc]
        exact callDT_ok hC (hchk _ h)
      · rename_i hnb hnv
        have h1 := hof _ h
        unfold St.stepD at h1
        rw [hd, ho] at h1
        simp only at h1
        split at h1
        · exact h1
        · rename_i x hx; exact absurd hx (hnv x)
        · cases h1
    all_goals
      (have h1 := hof _ h
       unfold St.stepD at h1 ⊢
       rw [hd, ho] at h1 ⊢
       exact h1)
def doOneT (c : CtxT) (ops : Array Oper) (A : List (List Nat)) (T : St) (rs : List R) (i : Nat) (o : Oper) (kn : Kn) : Tr (R × Kn) :=
  match o.dst with
  | none => .fail
  | some d =>
    let E := addAll T (rs.filter fun r => (A.getD i []).contains r.i)
    if (T.ob.getD d []).isEmpty = true ∧ (T.slot d).isNone = true ∧ rs.all (fun r => decide (r.d ≠ d)) = true ∧ d < T.sl.length ∧ d < T.ob.length then
      let yes (kn : Kn) : Tr (R × Kn) := (stepDT c kn E o).bind fun x => .ret (⟨i, d, x.1.slot d, x.1.ob.getD d []⟩, x.2)
      match o.guard with
      | none => yes kn
      | some (g, want) => guardT ops kn E g want fun w kn _ => match w with
        | true => yes kn
        | false => .ret (⟨i, d, some (.tup []), []⟩, kn.drop (some d))
    else .fail
theorem doOneT_ok {c : CtxT} {C : FuncId → Fn} (hC : CpOk c.CP C) {ops : Array Oper} {A : List (List Nat)} {T : St} {rs : List R} {i : Nat} {o : Oper} {kn : Kn} {x : R × Kn} (h : (doOneT c ops A T rs i o kn).run = some x) : doOne (c.to C) ops A T rs i o = some x.1 := by
  unfold doOneT at h
  split at h
  · cases h
  · rename_i d hd
    simp only at h
    split at h
    case isFalse => cases h
    rename_i hc
    unfold doOne
    refine Option.bind_eq_some_iff.2 ⟨d, hd, ?_⟩
    simp only
    rw [if_pos hc]
    have hyes : ∀ kn, ((stepDT c kn (addAll T (rs.filter fun r => (A.getD i []).contains r.i)) o).bind fun x => (.ret (⟨i, d, x.1.slot d, x.1.ob.getD d []⟩, x.2) : Tr (R × Kn))).run = some x →
        ((addAll T (rs.filter fun r => (A.getD i []).contains r.i)).stepD (c.to C) o).map (fun E' => (⟨i, d, E'.slot d, E'.ob.getD d []⟩ : R)) = some x.1 := fun kn h => by
      rw [Tr.run_bind] at h
      obtain ⟨y, h1, h2⟩ := Option.bind_eq_some_iff.1 h
      injection h2 with h2; subst h2
      exact Option.map_eq_some_iff.2 ⟨y.1, stepDT_ok hC h1, rfl⟩
    unfold wantD
    split at h
    · rename_i hg
      simp only [hg, Option.bind_some]
      exact hyes kn h
    · rename_i g want hg
      try simp only [hg]
      obtain ⟨y, kn', hy, h⟩ := guardT_ok h
      simp only [hy, Option.map_some, Option.bind_some]
      cases hw : wantOf y want with
      | true => rw [hw] at h; exact hyes kn' h
      | false => rw [hw] at h; injection h with h; subst h; rfl
def segT (c : CtxT) (ops : Array Oper) (A : List (List Nat)) (T : St) : Nat → List Oper → List R → Kn → Tr ((List R × List Oper) × Kn)
  | _, [], rs, kn => .ret ((rs, []), kn)
  | i, o :: os, rs, kn => if isBar ops o = true then .ret ((rs, o :: os), kn) else (doOneT c ops A T rs i o kn).bind fun r => segT c ops A T (i + 1) os (rs ++ [r.1]) r.2
theorem segT_ok {c : CtxT} {C : FuncId → Fn} (hC : CpOk c.CP C) {ops : Array Oper} {A : List (List Nat)} {T : St} : ∀ (os : List Oper) (i : Nat) (rs : List R) (kn : Kn) (x : (List R × List Oper) × Kn), (segT c ops A T i os rs kn).run = some x → segEv (c.to C) ops A T i os rs = some x.1
  | [], i, rs, kn, x, h => by injection h with h; subst h; rfl
  | o :: os, i, rs, kn, x, h => by
    unfold segT at h
    unfold segEv
    split at h
    · rename_i hb
      rw [if_pos hb]
      injection h with h; subst h; rfl
    · rename_i hb
      rw [if_neg hb]
      rw [Tr.run_bind] at h
      obtain ⟨r, h1, h2⟩ := Option.bind_eq_some_iff.1 h
      exact Option.bind_eq_some_iff.2 ⟨r.1, doOneT_ok hC h1, segT_ok hC os (i + 1) _ _ x h2⟩
end Go.AM
end
section
namespace Go.AM
open Go.RowKit
set_option linter.unusedVariables false

def drawT (c : CtxT) (ops : Array Oper) (A : List (List Nat)) : Nat → Nat → List Oper → St → Kn → Tr (St × Kn)
  | 0, _, _, _, _ => .fail
  | f + 1, i, os, T, kn => (segT c ops A T i os [] kn).bind fun x => match x.1.2 with
    | [] => .ret (addAll T x.1.1, x.2)
    | b :: os' =>
      if (List.range (i + x.1.1.length)).all (fun j => (A.getD (i + x.1.1.length) []).contains j) = true ∧ (List.range ops.size).all (fun m => decide (m ≤ i + x.1.1.length) || (A.getD m []).contains (i + x.1.1.length)) = true then
        match b.guard with
        | none => (stepT c x.2 (addAll T x.1.1) b).bind fun y => drawT c ops A f (i + x.1.1.length + 1) os' y.1 y.2
        | some (g, want) => guardT ops x.2 (addAll T x.1.1) g want fun w kn _ => match w with
          | true => (stepT c kn (addAll T x.1.1) b).bind fun y => drawT c ops A f (i + x.1.1.length + 1) os' y.1 y.2
          | false => drawT c ops A f (i + x.1.1.length + 1) os' ((addAll T x.1.1).skipS b.dst) (kn.drop b.dst)
      else .fail
theorem drawT_ok {c : CtxT} {C : FuncId → Fn} (hC : CpOk c.CP C) {ops : Array Oper} {A : List (List Nat)} : ∀ (f i : Nat) (os : List Oper) (T : St) (kn : Kn) (x : St × Kn), (drawT c ops A f i os T kn).run = some x → drawEv (c.to C) ops A f i os T = some x.1
  | 0, _, _, _, _, _, h => by cases h
  | f + 1, i, os, T, kn, x, h => by
    unfold drawT at h
    unfold drawEv
    rw [Tr.run_bind] at h
    obtain ⟨⟨⟨rs, os1⟩, kn1⟩, h1, h2⟩ := Option.bind_eq_some_iff.1 h
    refine Option.bind_eq_some_iff.2 ⟨(rs, os1), segT_ok hC os i [] kn _ h1, ?_⟩
    cases os1 with
    | nil => simp only at h2 ⊢; injection h2 with h2; subst h2; rfl
    | cons b os' =>
      simp only at h2 ⊢
      split at h2
      case isFalse => cases h2
      rename_i hc
      rw [if_pos hc]
      have hstep : ∀ kn, ((stepT c kn (addAll T rs) b).bind fun y => drawT c ops A f (i + rs.length + 1) os' y.1 y.2).run = some x → ((addAll T rs).step (c.to C) b).bind (fun T' => drawEv (c.to C) ops A f (i + rs.length + 1) os' T') = some x.1 := fun kn h => by
        rw [Tr.run_bind] at h
        obtain ⟨y, g1, g2⟩ := Option.bind_eq_some_iff.1 h
        exact Option.bind_eq_some_iff.2 ⟨y.1, stepT_ok hC g1, drawT_ok hC f _ os' y.1 y.2 x g2⟩
      unfold wantD
      split at h2
      · rename_i hg
        simp only [hg, Option.bind_some]
        exact hstep _ h2
      · rename_i g want hg
        try simp only [hg]
        obtain ⟨y, kn', hy, h3⟩ := guardT_ok h2
        simp only [hy, Option.map_some, Option.bind_some]
        cases hw : wantOf y want with
        | true => rw [hw] at h3; exact hstep kn' h3
        | false => rw [hw] at h3; exact drawT_ok hC f _ os' _ _ x h3
def runDrawT (c : CtxT) (ops : Array Oper) (st : St) (kn : Kn) : Tr (St × Kn) :=
  if lowB 0 ops.toList = true then drawT c ops (ancAll ops.toList []) (ops.size + 1) 0 ops.toList (st.clear ops ops.toList) kn else .fail
theorem runDrawT_ok {c : CtxT} {C : FuncId → Fn} (hC : CpOk c.CP C) {ops : Array Oper} {st : St} {kn : Kn} {x : St × Kn} (h : (runDrawT c ops st kn).run = some x) : runDraw (c.to C) ops st = some x.1 := by
  unfold runDrawT at h
  unfold runDraw
  split at h
  · rename_i hl; rw [if_pos hl]; exact drawT_ok hC _ _ _ _ _ x h
  · cases h
def loopsIn : Code → List Code
  | .seq a b => loopsIn a ++ loopsIn b
  | .cond _ a b => loopsIn a ++ loopsIn b
  | .block _ b => loopsIn b
  | .loop b => [b]
  | _ => []
/-- the loops' laws -/
def LpOk (c : CtxT) (C : FuncId → Fn) (n : Nat) (cd : Code) : Prop := ∀ b ∈ loopsIn cd, ∀ st x, (c.LP (firstId b) st).run = some x → loopEv c.an (firstId b) (ev (c.to C) n b) n st = some x
/-- code, its loops by their laws -/
def evT (c : CtxT) : Code → St → Kn → Tr ((Ex × St) × Kn)
  | .skip, st, kn => .ret ((.nrm, st), kn)
  | .label _, st, kn => .ret ((.nrm, st), kn)
  | .region id ops draw, st, kn => match draw with
    | false => (runOpsT c ops ops.toList st kn).bind fun x => .ret ((.nrm, x.1), x.2)
    | true => (runDrawT c ops st kn).bind fun x => .ret ((.nrm, x.1), x.2)
  | .seq a b, st, kn => (evT c a st kn).bind fun x => match x.1.1 with
    | .nrm => evT c b x.1.2 x.2
    | e => .ret ((e, x.1.2), x.2)
  | .cond x t e, st, kn => match st.opB c.Γ x with
    | none => .fail
    | some b => Tr.brK (kn.of x) b (evT c t (st.know x true) (kn.add x true)) (evT c e (st.know x false) (kn.add x false))
  | .block id b, st, kn => (evT c b st kn).bind fun x => .ret ((blockEx id x.1.1, x.1.2), x.2)
  | .exit id, st, kn => .ret ((.exit id, st), kn)
  | .ret, st, kn => .ret ((.ret, st), kn)
  | .loop b, st, kn => (c.LP (firstId b) st).bind fun x => .ret (x, [])
  | _, _, _ => .fail
theorem evT_ok {c : CtxT} {C : FuncId → Fn} (hC : CpOk c.CP C) (n : Nat) : ∀ (cd : Code) (hL : LpOk c C n cd) (st : St) (kn : Kn) (x : (Ex × St) × Kn), (evT c cd st kn).run = some x → ev (c.to C) n cd st = some x.1
  | .skip, _, st, kn, x, h => by injection h with h; subst h; rfl
  | .label l, _, st, kn, x, h => by injection h with h; subst h; rfl
  | .region id ops draw, _, st, kn, x, h => by
    cases draw with
    | false =>
      simp only [evT, Tr.run_bind] at h
      obtain ⟨y, h1, h2⟩ := Option.bind_eq_some_iff.1 h
      injection h2 with h2; subst h2
      exact Option.map_eq_some_iff.2 ⟨y.1, runOpsT_ok hC _ _ _ y h1, rfl⟩
    | true =>
      simp only [evT, Tr.run_bind] at h
      obtain ⟨y, h1, h2⟩ := Option.bind_eq_some_iff.1 h
      injection h2 with h2; subst h2
      exact Option.map_eq_some_iff.2 ⟨y.1, runDrawT_ok hC h1, rfl⟩
  | .seq a b, hL, st, kn, x, h => by
    have hLa : LpOk c C n a := fun b' hb' => hL b' (List.mem_append.mpr (.inl hb'))
    have hLb : LpOk c C n b := fun b' hb' => hL b' (List.mem_append.mpr (.inr hb'))
    simp only [evT, Tr.run_bind] at h
    obtain ⟨⟨⟨e, s⟩, k⟩, h1, h2⟩ := Option.bind_eq_some_iff.1 h
    refine Option.bind_eq_some_iff.2 ⟨(e, s), evT_ok hC n a hLa st kn _ h1, ?_⟩
    cases e with
    | nrm => exact evT_ok hC n b hLb s k x h2
    | exit id => injection h2 with h2; subst h2; rfl
    | ret => injection h2 with h2; subst h2; rfl
  | .cond co t e, hL, st, kn, x, h => by
    have hLa : LpOk c C n t := fun b' hb' => hL b' (List.mem_append.mpr (.inl hb'))
    have hLb : LpOk c C n e := fun b' hb' => hL b' (List.mem_append.mpr (.inr hb'))
    simp only [evT] at h
    split at h
    · cases h
    · rename_i b hb
      refine Option.bind_eq_some_iff.2 ⟨b, hb, ?_⟩
      rcases Tr.run_brK h with ⟨rfl, h'⟩ | ⟨rfl, h'⟩ <;> rw [know_opB hb] at h'
      · exact evT_ok hC n t hLa st _ x h'
      · exact evT_ok hC n e hLb st _ x h'
  | .block id b, hL, st, kn, x, h => by
    have hLb : LpOk c C n b := hL
    simp only [evT, Tr.run_bind] at h
    obtain ⟨y, h1, h2⟩ := Option.bind_eq_some_iff.1 h
    injection h2 with h2; subst h2
    exact Option.map_eq_some_iff.2 ⟨y.1, evT_ok hC n b hLb st kn y h1, rfl⟩
  | .exit id, _, st, kn, x, h => by injection h with h; subst h; rfl
  | .ret, _, st, kn, x, h => by injection h with h; subst h; rfl
  | .loop b, hL, st, kn, x, h => by
    simp only [evT, Tr.run_bind] at h
    obtain ⟨y, h1, h2⟩ := Option.bind_eq_some_iff.1 h
    injection h2 with h2; subst h2
    exact hL b (by simp [loopsIn]) st y h1
  | .rangeFunc .., _, st, kn, x, h => by cases h
  | .scope .., _, st, kn, x, h => by cases h
  | .goto .., _, st, kn, x, h => by cases h
  | .refuse .., _, st, kn, x, h => by cases h

/-! ### putting code together -/
theorem ev_seq {c : Ctx} {n : Nat} {a b : Code} {st st1 : St} {r : Option (Ex × St)} (h1 : ev c n a st = some (.nrm, st1)) (h2 : ev c n b st1 = r) : ev c n (.seq a b) st = r := by
  show (ev c n a st).bind _ = r
  rw [h1]; exact h2
theorem ev_block {c : Ctx} {n : Nat} {id : Nat} {b : Code} {st st1 : St} {e : Ex} (h1 : ev c n b st = some (e, st1)) : ev c n (.block id b) st = some (blockEx id e, st1) := by
  show (ev c n b st).map _ = _
  rw [h1]; rfl
theorem ev_loop_next {c : Ctx} {n m : Nat} {id : Nat} {b : Code} {st st0 st1 : St} {r : Option (Ex × St)} (h0 : st.norm c.an id .nrm = st0) (h1 : ev c n b st0 = some (.nrm, st1)) (h2 : loopEv c.an id (ev c n b) m st1 = r) : loopEv c.an id (ev c n b) (m + 1) st = r := by
  show ((ev c n b (st.norm c.an id .nrm)).bind _) = r
  rw [h0, h1]; exact h2
theorem ev_loop_end {c : Ctx} {n m : Nat} {id : Nat} {b : Code} {st st0 st1 : St} {i : Nat} (h0 : st.norm c.an id .nrm = st0) (h1 : ev c n b st0 = some (.exit i, st1)) : loopEv c.an id (ev c n b) (m + 1) st = some (.exit i, st1.norm c.an id (.exit i)) := by
  show ((ev c n b (st.norm c.an id .nrm)).bind _) = _
  rw [h0, h1]; rfl
theorem ev_loop_ret {c : Ctx} {n m : Nat} {id : Nat} {b : Code} {st st0 st1 : St} (h0 : st.norm c.an id .nrm = st0) (h1 : ev c n b st0 = some (.ret, st1)) : loopEv c.an id (ev c n b) (m + 1) st = some (.ret, st1.norm c.an id .ret) := by
  show ((ev c n b (st.norm c.an id .nrm)).bind _) = _
  rw [h0, h1]; rfl
end Go.AM
end
section
namespace Go.AM
open Go.RowKit
set_option linter.unusedVariables false

def fnT (c : CtxT) (fn : Func) (sig : Sig) (args : List PA) : Tr (List (List PL)) :=
  match initAll 0 sig.par args with
  | none => .fail
  | some x =>
    if x.1.length ≤ fn.ntmps then
      match fn.body with
      | some b => (evT c b (initSt fn.ntmps x) []).bind fun y => Tr.of (fnEnd c.Γ sig fn.results.toList y.1)
      | none => .fail
    else .fail
theorem fnT_ok {c : CtxT} {C : FuncId → Fn} (hC : CpOk c.CP C) {n : Nat} {fn : Func} {sig : Sig} (hL : ∀ b, fn.body = some b → LpOk c C n b) {args : List PA} {outs : List (List PL)} (h : (fnT c fn sig args).run = some outs) : fnEv (c.to C) n fn sig args = some outs := by
  unfold fnT at h
  split at h
  · cases h
  · rename_i x hx
    unfold fnEv
    refine Option.bind_eq_some_iff.2 ⟨x, hx, ?_⟩
    split at h
    case isFalse => cases h
    rename_i hl
    rw [if_pos hl]
    split at h
    · rename_i b hb
      try rw [hb]
      try simp only
      rw [Tr.run_bind] at h
      obtain ⟨y, h1, h2⟩ := Option.bind_eq_some_iff.1 h
      rw [Tr.run_of] at h2
      exact Option.bind_eq_some_iff.2 ⟨y.1, evT_ok hC n b (hL b hb) _ _ y h1, h2⟩
    · cases h
/-- the laws of functions, in a list -/
structure Law where
  f : FuncId
  sig : Sig
  F : FnT
def lawOf (l : List Law) (f : FuncId) : Option Law := l.find? fun x => x.f == f
def sigsOf (l : List Law) : FuncId → Option Sig := fun f => (lawOf l f).map (·.sig)
def cpOf (l : List Law) : FuncId → FnT := fun f a => (lawOf l f).bind fun x => x.F a
def FnT.fn (F : FnT) : Fn := fun a => (F a).bind fun x => match x.1 with
  | true => some x.2
  | false => none
def cOf (l : List Law) : FuncId → Fn := fun f => FnT.fn (cpOf l f)
theorem cpOk (l : List Law) : CpOk (cpOf l) (cOf l) := fun f a outs h => by
  unfold cOf FnT.fn
  rw [h]; rfl
structure LawOk (P : Program) (x : Law) : Prop where
  has : ∃ fn c, P.funcs[x.f]? = some fn ∧ (fn.name == "runtime.NumGoroutine") = false ∧ fn.body = some c
  spec : Spec P x.sig x.F.fn x.f
def LawsOk (P : Program) (l : List Law) : Prop := ∀ x ∈ l, LawOk P x
theorem LawsOk.cons {P : Program} {x : Law} {l : List Law} (hx : LawOk P x) (hl : LawsOk P l) : LawsOk P (x :: l) := fun y hy => by
  rcases List.mem_cons.mp hy with rfl | hy
  · exact hx
  · exact hl y hy
theorem LawsOk.nil {P : Program} : LawsOk P [] := fun y hy => by cases hy
theorem LawsOk.fns {P : Program} {l : List Law} (h : LawsOk P l) : FnsOk P (sigsOf l) (cOf l) := by
  have key : ∀ f sig, sigsOf l f = some sig → ∃ x, lawOf l f = some x ∧ x.sig = sig ∧ x ∈ l ∧ x.f = f := fun f sig hs => by
    obtain ⟨x, hx, e⟩ := Option.map_eq_some_iff.1 hs
    have := List.find?_some hx
    exact ⟨x, hx, e, List.mem_of_find?_eq_some hx, by simpa using this⟩
  refine ⟨fun f sig hs => ?_, fun f sig hs => ?_⟩
  · obtain ⟨x, _, _, hm, e⟩ := key f sig hs
    rw [← e]; exact (h x hm).has
  · obtain ⟨x, hx, e1, hm, e2⟩ := key f sig hs
    have : cOf l f = x.F.fn := by
      unfold cOf cpOf
      rw [hx]; rfl
    rw [this, ← e1, ← e2]
    exact (h x hm).spec
theorem Spec.of {P : Program} {sig : Sig} {F : Fn} {f : FuncId} (h : ∀ args outs, F args = some outs → ∃ F', F' args = some outs ∧ Spec P sig F' f) : Spec P sig F f := fun args outs hF => by
  obtain ⟨F', h1, h2⟩ := h args outs hF
  exact h2 args outs h1
theorem LpOk.none {c : CtxT} {C : FuncId → Fn} {n : Nat} {cd : Code} (h : loopsIn cd = []) : LpOk c C n cd := fun b hb => by rw [h] at hb; cases hb
/-- a law, from its tree -/
theorem lawOk {P : Program} {l : List Law} (hl : LawsOk P l) {Γ : Tys} (hΓ : TysOk P Γ) (hm : P.follows .mixedOrders = true) {f : FuncId} {fn : Func} (hf : P.funcs[f]? = some fn) (hn : (fn.name == "runtime.NumGoroutine") = false) {body : Code} (hb : fn.body = some body)
    (sig : Sig) (F : FnT) (an : Ann) (LP : Nat → Nat → St → Tr (Ex × St))
    (h : ∀ args outs, F args = some (true, outs) → ∃ n, LpOk ⟨Γ, sigsOf l, cpOf l, an, LP n⟩ (cOf l) n body ∧ (fnT ⟨Γ, sigsOf l, cpOf l, an, LP n⟩ fn sig args).run = some outs) : LawOk P ⟨f, sig, F⟩ := by
  refine ⟨⟨fn, body, hf, hn, hb⟩, Spec.of fun args outs hF => ?_⟩
  have hF' : F args = some (true, outs) := by
    unfold FnT.fn at hF
    obtain ⟨⟨b, o⟩, h1, h2⟩ := Option.bind_eq_some_iff.1 hF
    cases b with
    | true => injection h2 with h2; subst h2; exact h1
    | false => cases h2
  obtain ⟨n, hL, hr⟩ := h args outs hF'
  refine ⟨fnEv ((⟨Γ, sigsOf l, cpOf l, an, LP n⟩ : CtxT).to (cOf l)) n fn sig, fnT_ok (cpOk l) (fun b hb' => ?_) hr, spec_fn hΓ hl.fns hm hf n sig⟩
  rw [hb] at hb'
  injection hb' with hb'; subst hb'
  exact hL
end Go.AM
end
section
namespace Go.AM
open Go.RowKit
set_option linter.unusedVariables false

/-! ### shapes: what a state holds at a loop's head or end -/
inductive CT where
  | pl (t : LT) | nat
  deriving DecidableEq
@[reducible] def CT.den : CT → Type
  | .pl t => t.den
  | .nat => Nat
inductive CV where
  | pl (p : PL) | nat (n : Nat)
@[reducible] def Tup : List CT → Type
  | [] => Unit
  | [c] => c.den
  | c :: d :: cs => c.den × Tup (d :: cs)
inductive LD where
  | imm (t : LT) | own (k : Key) | win (k : Key) | ptr (k : Key) (o : Nat) | ip (ts : List LT) | cl (f : FuncId) (tss : List (List LT)) | clo (f : FuncId) (cap : List Key) | dead
inductive CD where
  | one (l : LD) | agg (ls : List LD)
inductive SD where
  | val (c : CD) | tup (cs : List CD)
inductive OD where
  | non | arr (e : TypeId) (r : Row) | box (ls : List LD)
structure Shape where
  frz : List Nat
  n : Nat
  sl : List (Nat × SD)
  ob : List (Nat × List OD)
def LD.cts : LD → List CT
  | .imm t => [.pl t]
  | .win _ => [.nat, .nat]
  | .ip ts => ts.map .pl
  | .cl _ tss => tss.flatten.map .pl
  | _ => []
def CD.cts : CD → List CT
  | .one l => l.cts
  | .agg ls => ls.flatMap LD.cts
def SD.cts : SD → List CT
  | .val c => c.cts
  | .tup cs => cs.flatMap CD.cts
def OD.cts : OD → List CT
  | .arr _ r => [.pl (.sl r)]
  | .box ls => ls.flatMap LD.cts
  | .non => []
def Shape.cts (s : Shape) : List CT := s.sl.flatMap (fun x => x.2.cts) ++ s.ob.flatMap (fun x => x.2.flatMap OD.cts)
def Shape.keep (s : Shape) : List (Nat × Bool) := s.sl.map (fun x => (x.1, false)) ++ s.ob.map (fun x => (x.1, true))

/-! reading -/
def rdPs : List LT → List PL → Option (List CV)
  | [], [] => some []
  | t :: ts, p :: ps => if p.t = t then (rdPs ts ps).map fun r => .pl p :: r else none
  | _, _ => none
def rdPss : List (List LT) → List (List PL) → Option (List CV)
  | [], [] => some []
  | t :: ts, p :: ps => (rdPs t p).bind fun a => (rdPss ts ps).map fun b => a ++ b
  | _, _ => none
def rdL : LD → Leaf → Option (List CV)
  | .imm t, .imm p => if p.t = t then some [.pl p] else none
  | .own k, .own k' => if k = k' then some [] else none
  | .win k, .win k' lo n => if k = k' then some [.nat lo, .nat n] else none
  | .ptr k o, .ptr k' o' => if k = k' ∧ o = o' then some [] else none
  | .ip ts, .ip ps => rdPs ts ps
  | .cl f tss, .cl f' pss => if f = f' then rdPss tss pss else none
  | .clo f cap, .clo f' cap' => if f = f' ∧ cap = cap' then some [] else none
  | .dead, .dead => some []
  | _, _ => none
def rdMany {α β : Type} (f : α → β → Option (List CV)) : List α → List β → Option (List CV)
  | [], [] => some []
  | a :: as, b :: bs => (f a b).bind fun x => (rdMany f as bs).map fun y => x ++ y
  | _, _ => none
def rdC : CD → Cmp → Option (List CV)
  | .one l, .one l' => rdL l l'
  | .agg ls, .agg ls' => rdMany rdL ls ls'
  | _, _ => none
def rdSl : SD → Slot → Option (List CV)
  | .val c, .val c' => rdC c c'
  | .tup cs, .tup cs' => rdMany rdC cs cs'
  | _, _ => none
def rdO : OD → Option Ob → Option (List CV)
  | .non, none => some []
  | .arr e r, some (.arr e' r' xs) => if e = e' ∧ r' = r then some [.pl ⟨.sl r', xs⟩] else none
  | .box ls, some (.box ls') => rdMany rdL ls ls'
  | _, _ => none
def rdSls (st : St) : List (Nat × SD) → Option (List CV)
  | [] => some []
  | x :: xs => (st.slot x.1).bind fun s => (rdSl x.2 s).bind fun a => (rdSls st xs).map fun b => a ++ b
def rdObs (st : St) : List (Nat × List OD) → Option (List CV)
  | [] => some []
  | x :: xs => (rdMany rdO x.2 (st.ob.getD x.1 [])).bind fun a => (rdObs st xs).map fun b => a ++ b

/-! building -/
def mkPs : List LT → List CV → Option (List PL × List CV)
  | [], r => some ([], r)
  | t :: ts, .pl p :: r => (mkPs ts r).map fun x => (p :: x.1, x.2)
  | _ :: _, _ => none
def mkPss : List (List LT) → List CV → Option (List (List PL) × List CV)
  | [], r => some ([], r)
  | t :: ts, r => (mkPs t r).bind fun x => (mkPss ts x.2).map fun y => (x.1 :: y.1, y.2)
def mkL : LD → List CV → Option (Leaf × List CV)
  | .imm t, .pl p :: r => some (.imm p, r)
  | .own k, r => some (.own k, r)
  | .win k, .nat lo :: .nat n :: r => some (.win k lo n, r)
  | .ptr k o, r => some (.ptr k o, r)
  | .ip ts, r => (mkPs ts r).map fun x => (.ip x.1, x.2)
  | .cl f tss, r => (mkPss tss r).map fun x => (.cl f x.1, x.2)
  | .clo f cap, r => some (.clo f cap, r)
  | .dead, r => some (.dead, r)
  | _, _ => none
def mkMany {α β : Type} (f : α → List CV → Option (β × List CV)) : List α → List CV → Option (List β × List CV)
  | [], r => some ([], r)
  | a :: as, r => (f a r).bind fun x => (mkMany f as x.2).map fun y => (x.1 :: y.1, y.2)
def mkC : CD → List CV → Option (Cmp × List CV)
  | .one l, r => (mkL l r).map fun x => (.one x.1, x.2)
  | .agg ls, r => (mkMany mkL ls r).map fun x => (.agg x.1, x.2)
def mkSl : SD → List CV → Option (Slot × List CV)
  | .val c, r => (mkC c r).map fun x => (.val x.1, x.2)
  | .tup cs, r => (mkMany mkC cs r).map fun x => (.tup x.1, x.2)
def mkO : OD → List CV → Option (Option Ob × List CV)
  | .non, r => some (none, r)
  | .arr e r, .pl ⟨.sl r', xs⟩ :: q => some (some (.arr e r' xs), q)
  | .box ls, r => (mkMany mkL ls r).map fun x => (some (.box x.1), x.2)
  | _, _ => none
def mkSls : List (Nat × SD) → List CV → Option (List (Nat × Slot) × List CV)
  | [], r => some ([], r)
  | x :: xs, r => (mkSl x.2 r).bind fun a => (mkSls xs a.2).map fun b => ((x.1, a.1) :: b.1, b.2)
def mkObs : List (Nat × List OD) → List CV → Option (List (Nat × List (Option Ob)) × List CV)
  | [], r => some ([], r)
  | x :: xs, r => (mkMany mkO x.2 r).bind fun a => (mkObs xs a.2).map fun b => ((x.1, a.1) :: b.1, b.2)
def assemble (n : Nat) (sl : List (Nat × Slot)) (ob : List (Nat × List (Option Ob))) : St :=
  ⟨(List.range n).map fun i => sl.lookup i, (List.range n).map fun d => (ob.lookup d).getD []⟩
def mkV (sh : Shape) (vs : List CV) : Option St :=
  (mkSls sh.sl vs).bind fun a => (mkObs sh.ob a.2).map fun b => assemble sh.n a.1 b.1

/-! typed -/
def decT : (cs : List CT) → List CV → Option (Tup cs)
  | [], [] => some ()
  | [.pl t], [.pl p] => castT p.t t p.x
  | [.nat], [.nat n] => some n
  | .pl t :: d :: cs, .pl p :: vs => (castT p.t t p.x).bind fun a => (decT (d :: cs) vs).map fun b => (a, b)
  | .nat :: d :: cs, .nat n :: vs => (decT (d :: cs) vs).map fun b => (n, b)
  | _, _ => none
def encC : (c : CT) → c.den → CV
  | .pl t, x => .pl ⟨t, x⟩
  | .nat, n => .nat n
def encT : (cs : List CT) → Tup cs → List CV
  | [], _ => []
  | [c], x => [encC c x]
  | c :: d :: cs, x => encC c x.1 :: encT (d :: cs) x.2
def rd (sh : Shape) (st0 : St) : Option (Tup sh.cts) :=
  let st := st0.frzS sh.frz
  if st.sl.length = sh.n ∧ st.ob.length = sh.n ∧ (st.only (sh.sl.map (·.1)) (sh.ob.map (·.1))).closedB = true then
    (rdSls st sh.sl).bind fun a => (rdObs st sh.ob).bind fun b => decT sh.cts (a ++ b)
  else none
def mk (sh : Shape) (t : Tup sh.cts) : Option St := mkV sh (encT sh.cts t)

/-! ### what is read is built again -/
theorem decT_enc : ∀ (cs : List CT) (vs : List CV) (t : Tup cs), decT cs vs = some t → encT cs t = vs
  | [], [], _, _ => rfl
  | [.pl t], [.pl p], x, h => by
    have := castT_eq (show castT p.t t p.x = some x from h)
    show [CV.pl ⟨t, x⟩] = _
    rw [← this]
  | [.nat], [.nat n], x, h => by
    injection h with h; subst h; rfl
  | .pl t :: d :: cs, .pl p :: vs, x, h => by
    simp only [decT, Option.bind_eq_some_iff, Option.map_eq_some_iff] at h
    obtain ⟨a, ha, b, hb, rfl⟩ := h
    have h1 := castT_eq ha
    show CV.pl ⟨t, a⟩ :: encT (d :: cs) b = _
    rw [← h1, decT_enc _ vs b hb]
  | .nat :: d :: cs, .nat n :: vs, x, h => by
    simp only [decT, Option.map_eq_some_iff] at h
    obtain ⟨b, hb, rfl⟩ := h
    show CV.nat n :: encT (d :: cs) b = _
    rw [decT_enc _ vs b hb]
  | [], _ :: _, _, h => by cases h
  | [.pl _], [], _, h => by cases h
  | [.nat], [], _, h => by cases h
  | [.pl _], .nat _ :: _, _, h => by cases h
  | [.nat], .pl _ :: _, _, h => by cases h
  | [.pl _], .pl _ :: _ :: _, _, h => by cases h
  | [.nat], .nat _ :: _ :: _, _, h => by cases h
  | .pl _ :: _ :: _, [], _, h => by cases h
  | .nat :: _ :: _, [], _, h => by cases h
  | .pl _ :: _ :: _, .nat _ :: _, _, h => by cases h
  | .nat :: _ :: _, .pl _ :: _, _, h => by cases h
theorem rdPs_mk : ∀ (ts : List LT) (ps : List PL) (vs r : List CV), rdPs ts ps = some vs → mkPs ts (vs ++ r) = some (ps, r)
  | [], [], _, r, h => by injection h with h; subst h; rfl
  | t :: ts, p :: ps, vs, r, h => by
    unfold rdPs at h
    split at h
    · obtain ⟨q, hq, rfl⟩ := Option.map_eq_some_iff.1 h
      show (mkPs ts (q ++ r)).map _ = _
      rw [rdPs_mk ts ps q r hq]; rfl
    · cases h
  | [], _ :: _, _, _, h => by cases h
  | _ :: _, [], _, _, h => by cases h
theorem rdPss_mk : ∀ (ts : List (List LT)) (ps : List (List PL)) (vs r : List CV), rdPss ts ps = some vs → mkPss ts (vs ++ r) = some (ps, r)
  | [], [], _, r, h => by injection h with h; subst h; rfl
  | t :: ts, p :: ps, vs, r, h => by
    simp only [rdPss, Option.bind_eq_some_iff, Option.map_eq_some_iff] at h
    obtain ⟨a, ha, b, hb, rfl⟩ := h
    show (mkPs t (a ++ b ++ r)).bind _ = _
    rw [List.append_assoc, rdPs_mk t p a _ ha]
    show (mkPss ts (b ++ r)).map _ = _
    rw [rdPss_mk ts ps b r hb]; rfl
  | [], _ :: _, _, _, h => by cases h
  | _ :: _, [], _, _, h => by cases h
theorem rdMany_mk {α β : Type} {f : α → β → Option (List CV)} {g : α → List CV → Option (β × List CV)} (hfg : ∀ a b vs r, f a b = some vs → g a (vs ++ r) = some (b, r)) : ∀ (as : List α) (bs : List β) (vs r : List CV), rdMany f as bs = some vs → mkMany g as (vs ++ r) = some (bs, r)
  | [], [], _, r, h => by injection h with h; subst h; rfl
  | a :: as, b :: bs, vs, r, h => by
    simp only [rdMany, Option.bind_eq_some_iff, Option.map_eq_some_iff] at h
    obtain ⟨x, hx, y, hy, rfl⟩ := h
    show (g a (x ++ y ++ r)).bind _ = _
    rw [List.append_assoc, hfg a b x _ hx]
    show (mkMany g as (y ++ r)).map _ = _
    rw [rdMany_mk hfg as bs y r hy]; rfl
  | [], _ :: _, _, _, h => by cases h
  | _ :: _, [], _, _, h => by cases h
theorem rdL_mk (d : LD) (l : Leaf) (vs r : List CV) (h : rdL d l = some vs) : mkL d (vs ++ r) = some (l, r) := by
  cases d <;> cases l <;> simp only [rdL] at h <;> try (cases h; done)
  case imm.imm t p => split at h <;> cases h; rfl
  case own.own k k' => split at h <;> cases h; rename_i e; subst e; rfl
  case win.win k k' lo n => split at h <;> cases h; rename_i e; subst e; rfl
  case ptr.ptr k o k' o' => split at h <;> cases h; rename_i e; obtain ⟨rfl, rfl⟩ := e; rfl
  case ip.ip ts ps =>
    show (mkPs ts (vs ++ r)).map _ = _
    rw [rdPs_mk ts ps vs r h]; rfl
  case cl.cl f tss f' pss =>
    split at h
    · rename_i e; subst e
      show (mkPss tss (vs ++ r)).map _ = _
      rw [rdPss_mk tss pss vs r h]; rfl
    · cases h
  case clo.clo f cap f' cap' => split at h <;> cases h; rename_i e; obtain ⟨rfl, rfl⟩ := e; rfl
  case dead.dead => cases h; rfl
theorem rdC_mk (d : CD) (l : Cmp) (vs r : List CV) (h : rdC d l = some vs) : mkC d (vs ++ r) = some (l, r) := by
  cases d <;> cases l <;> simp only [rdC] at h <;> try (cases h; done)
  case one.one d l =>
    show (mkL d (vs ++ r)).map _ = _
    rw [rdL_mk d l vs r h]; rfl
  case agg.agg d l =>
    show (mkMany mkL d (vs ++ r)).map _ = _
    rw [rdMany_mk rdL_mk d l vs r h]; rfl
theorem rdSl_mk (d : SD) (l : Slot) (vs r : List CV) (h : rdSl d l = some vs) : mkSl d (vs ++ r) = some (l, r) := by
  cases d <;> cases l <;> simp only [rdSl] at h <;> try (cases h; done)
  case val.val d l =>
    show (mkC d (vs ++ r)).map _ = _
    rw [rdC_mk d l vs r h]; rfl
  case tup.tup d l =>
    show (mkMany mkC d (vs ++ r)).map _ = _
    rw [rdMany_mk rdC_mk d l vs r h]; rfl
theorem rdO_mk (d : OD) (l : Option Ob) (vs r : List CV) (h : rdO d l = some vs) : mkO d (vs ++ r) = some (l, r) := by
  unfold rdO at h
  split at h
  · cases h; rfl
  · split at h
    · rename_i e
      obtain ⟨rfl, rfl⟩ := e
      cases h; rfl
    · cases h
  · rename_i d l
    show (mkMany mkL d (vs ++ r)).map _ = _
    rw [rdMany_mk rdL_mk d l vs r h]; rfl
  · cases h
theorem rdSls_mk (st : St) : ∀ (xs : List (Nat × SD)) (vs r : List CV), rdSls st xs = some vs → ∃ ys, mkSls xs (vs ++ r) = some (ys, r) ∧ ∀ i, ys.lookup i = if (xs.map (·.1)).contains i = true then st.slot i else none
  | [], vs, r, h => by injection h with h; subst h; exact ⟨[], rfl, fun i => by simp⟩
  | x :: xs, vs, r, h => by
    simp only [rdSls, Option.bind_eq_some_iff, Option.map_eq_some_iff] at h
    obtain ⟨s, hs, a, ha, b, hb, rfl⟩ := h
    obtain ⟨ys, h1, h2⟩ := rdSls_mk st xs b r hb
    refine ⟨(x.1, s) :: ys, ?_, fun i => ?_⟩
    · show (mkSl x.2 (a ++ b ++ r)).bind _ = _
      rw [List.append_assoc, rdSl_mk x.2 s a _ ha]
      show (mkSls xs (b ++ r)).map _ = _
      rw [h1]; rfl
    · rw [List.lookup_cons]
      by_cases e : i = x.1
      · subst e; simp [hs]
      · have e1 : (i == x.1) = false := by simpa using e
        rw [e1]
        simp only [h2 i, List.map_cons, List.contains_cons, e1, Bool.false_or]
theorem rdObs_mk (st : St) : ∀ (xs : List (Nat × List OD)) (vs r : List CV), rdObs st xs = some vs → ∃ ys, mkObs xs (vs ++ r) = some (ys, r) ∧ ∀ i, (ys.lookup i).getD [] = if (xs.map (·.1)).contains i = true then st.ob.getD i [] else []
  | [], vs, r, h => by injection h with h; subst h; exact ⟨[], rfl, fun i => by simp⟩
  | x :: xs, vs, r, h => by
    simp only [rdObs, Option.bind_eq_some_iff, Option.map_eq_some_iff] at h
    obtain ⟨a, ha, b, hb, rfl⟩ := h
    obtain ⟨ys, h1, h2⟩ := rdObs_mk st xs b r hb
    refine ⟨(x.1, st.ob.getD x.1 []) :: ys, ?_, fun i => ?_⟩
    · show (mkMany mkO x.2 (a ++ b ++ r)).bind _ = _
      rw [List.append_assoc, rdMany_mk rdO_mk x.2 _ a _ ha]
      show (mkObs xs (b ++ r)).map _ = _
      rw [h1]; rfl
    · rw [List.lookup_cons]
      by_cases e : i = x.1
      · subst e; simp
      · have e1 : (i == x.1) = false := by simpa using e
        rw [e1]
        simp only [h2 i, List.map_cons, List.contains_cons, e1, Bool.false_or]
theorem rd_mk {sh : Shape} {st : St} {t : Tup sh.cts} (h : rd sh st = some t) : mk sh t = some ((st.frzS sh.frz).only (sh.sl.map (·.1)) (sh.ob.map (·.1))) ∧ ((st.frzS sh.frz).only (sh.sl.map (·.1)) (sh.ob.map (·.1))).closedB = true := by
  unfold rd at h
  dsimp only at h
  split at h
  case isFalse => cases h
  rename_i hc
  obtain ⟨hc1, hc2, hc3⟩ := hc
  refine ⟨?_, hc3⟩
  simp only [Option.bind_eq_some_iff] at h
  obtain ⟨a, ha, b, hb, hd⟩ := h
  unfold mk mkV
  rw [decT_enc _ _ _ hd]
  obtain ⟨ys, h1, h2⟩ := rdSls_mk _ sh.sl a b ha
  obtain ⟨zs, h3, h4⟩ := rdObs_mk _ sh.ob b [] hb
  rw [List.append_nil] at h3
  rw [h1]
  show (mkObs sh.ob b).map _ = _
  rw [h3]
  show some (assemble sh.n ys zs) = _
  unfold assemble St.only
  rw [hc1, hc2]
  simp only [h2, h4]
theorem filter_keep (s : Shape) : (s.keep.filter fun x => !x.2).map (·.1) = s.sl.map (·.1) ∧ (s.keep.filter fun x => x.2).map (·.1) = s.ob.map (·.1) := by
  unfold Shape.keep
  constructor
  · rw [List.filter_append, List.filter_eq_self.mpr (by simp), List.filter_eq_nil_iff.mpr (by simp)]; simp [Function.comp_def]
  · rw [List.filter_append, List.filter_eq_nil_iff.mpr (by simp), List.filter_eq_self.mpr (by simp)]; simp [Function.comp_def]
theorem rd_norm {sh : Shape} {st : St} {t : Tup sh.cts} (h : rd sh st = some t) {an : Ann} {id : Nat} {e : Ex} (hk : an.keep id e = some (sh.frz, sh.keep)) : mk sh t = some (st.norm an id e) := by
  obtain ⟨h1, h2⟩ := rd_mk h
  unfold St.norm
  rw [hk]
  simp only [(filter_keep sh).1, (filter_keep sh).2]
  rw [if_pos h2]; exact h1

/-! ### a loop: its shapes, its body as a tree -/
@[reducible] def XT : List (Ex × Shape) → Type
  | [] => Empty
  | [x] => Tup x.2.cts
  | x :: y :: r => Tup x.2.cts ⊕ XT (y :: r)
def finT : (xs : List (Ex × Shape)) → XT xs → Tr (Ex × St)
  | [], _ => .fail
  | [x], t => (Tr.of (mk x.2 t)).bind fun st => .ret (x.1, st)
  | x :: y :: r, s => .sum s (fun t => (Tr.of (mk x.2 t)).bind fun st => .ret (x.1, st)) (fun t => finT (y :: r) t)
def outX (an : Ann) (id : Nat) : (xs : List (Ex × Shape)) → Ex → St → Option (XT xs)
  | [], _, _ => none
  | [x], e, st => if e = x.1 ∧ an.keep id e = some (x.2.frz, x.2.keep) then rd x.2 st else none
  | x :: y :: r, e, st => match (if e = x.1 ∧ an.keep id e = some (x.2.frz, x.2.keep) then rd x.2 st else none) with
    | some t => some (.inl t)
    | none => (outX an id (y :: r) e st).map .inr
theorem outX_fin (an : Ann) (id : Nat) : ∀ (xs : List (Ex × Shape)) (e : Ex) (st : St) (r : XT xs), outX an id xs e st = some r → (finT xs r).run = some (e, st.norm an id e)
  | [], _, _, _, h => by cases h
  | [x], e, st, r, h => by
    unfold outX at h
    split at h
    · rename_i hc
      obtain ⟨rfl, hk⟩ := hc
      show ((Tr.of (mk x.2 r)).bind _).run = _
      rw [rd_norm h hk]; rfl
    · cases h
  | x :: y :: q, e, st, r, h => by
    unfold outX at h
    split at h
    · rename_i t ht
      injection h with h; subst h
      split at ht
      · rename_i hc
        obtain ⟨rfl, hk⟩ := hc
        show ((Tr.of (mk x.2 t)).bind _).run = _
        rw [rd_norm ht hk]; rfl
      · cases ht
    · obtain ⟨z, hz, rfl⟩ := Option.map_eq_some_iff.1 h
      exact outX_fin an id (y :: q) e st z hz
def iter {σ ρ : Type} (f : σ → Option (σ ⊕ ρ)) : Nat → σ → Option ρ
  | 0, _ => none
  | n + 1, s => (f s).bind fun x => match x with
    | .inl s' => iter f n s'
    | .inr r => some r
def it {σ ρ : Type} (B : Nat → σ → Tr (σ ⊕ ρ)) (n : Nat) (s : σ) : Option ρ := iter (fun s => (B n s).run) n s
structure LoopB : Type 1 where
  id : Nat
  sh : Shape
  xs : List (Ex × Shape)
  B : Nat → Tup sh.cts → Tr (Tup sh.cts ⊕ XT xs)
def LPof (bs : List LoopB) (n : Nat) (id : Nat) (st : St) : Tr (Ex × St) :=
  match bs.find? fun b => b.id == id with
  | some lb => (Tr.of (rd lb.sh st)).bind fun s => .opt (it lb.B n s) (finT lb.xs)
  | none => .fail
def keepOf (bs : List LoopB) (id : Nat) (e : Ex) : Option (List Nat × List (Nat × Bool)) :=
  let f : Shape → List Nat × List (Nat × Bool) := fun s => (s.frz, s.keep)
  (bs.find? fun b => b.id == id).bind fun lb => match e with
    | .nrm => some (f lb.sh)
    | e => (lb.xs.find? fun x => decide (x.1 = e)).map fun x => f x.2
/-- the tree of a body, from the shape of its head -/
def bodyR (c : CtxT) (b : Code) (lb : LoopB) (t : Tup lb.sh.cts) : Tr (Tup lb.sh.cts ⊕ XT lb.xs) :=
  (Tr.of (mk lb.sh t)).bind fun st => (evT c b st []).bind fun x => match x.1.1 with
    | .nrm => (Tr.of (rd lb.sh x.1.2)).bind fun s => .ret (.inl s)
    | e => (Tr.of (outX c.an lb.id lb.xs e x.1.2)).bind fun r => .ret (.inr r)
def allLoops : Code → List Code
  | .seq a b => allLoops a ++ allLoops b
  | .cond _ a b => allLoops a ++ allLoops b
  | .block _ b => allLoops b
  | .loop b => b :: allLoops b
  | _ => []
theorem loopsIn_all : ∀ (c : Code) (b : Code), b ∈ loopsIn c → b ∈ allLoops c
  | .seq p q, b, h => by
    rcases List.mem_append.mp h with h | h
    · exact List.mem_append.mpr (.inl (loopsIn_all p b h))
    · exact List.mem_append.mpr (.inr (loopsIn_all q b h))
  | .cond _ p q, b, h => by
    rcases List.mem_append.mp h with h | h
    · exact List.mem_append.mpr (.inl (loopsIn_all p b h))
    · exact List.mem_append.mpr (.inr (loopsIn_all q b h))
  | .block _ p, b, h => loopsIn_all p b h
  | .loop p, b, h => by
    have : b = p := by simpa [loopsIn] using h
    subst this; simp [allLoops]
  | .skip, _, h => by cases h
  | .label _, _, h => by cases h
  | .region .., _, h => by cases h
  | .exit _, _, h => by cases h
  | .ret, _, h => by cases h
  | .rangeFunc .., _, h => by cases h
  | .scope .., _, h => by cases h
  | .goto .., _, h => by cases h
  | .refuse .., _, h => by cases h
/-- what is shown of each loop of a function: its body's tree is the given one -/
def BodyOk (c : CtxT) (bs : List LoopB) (n : Nat) (b : Code) : Prop :=
  ∃ lb, (bs.find? fun x => x.id == firstId b) = some lb ∧ (∀ t, (bodyR c b lb t).run = (lb.B n t).run)
theorem iter_loop {c : CtxT} {C : FuncId → Fn} (hC : CpOk c.CP C) {n : Nat} {b : Code} {lb : LoopB} (hk : c.an.keep lb.id .nrm = some (lb.sh.frz, lb.sh.keep)) (hL : LpOk c C n b) (hB : ∀ t, (bodyR c b lb t).run = (lb.B n t).run) : ∀ (m : Nat) (st : St) (s : Tup lb.sh.cts) (r : XT lb.xs) (y : Ex × St),
    rd lb.sh st = some s → iter (fun s => (lb.B n s).run) m s = some r → (finT lb.xs r).run = some y → loopEv c.an lb.id (ev (c.to C) n b) m st = some y
  | 0, _, _, _, _, _, h, _ => by cases h
  | m + 1, st, s, r, y, hr, h, hy => by
    unfold iter at h
    obtain ⟨z, hz, h⟩ := Option.bind_eq_some_iff.1 h
    have hm := rd_norm hr hk
    rw [← hB] at hz
    unfold bodyR at hz
    rw [Tr.run_bind, Tr.run_of] at hz
    obtain ⟨st0, h0, hz⟩ := Option.bind_eq_some_iff.1 hz
    rw [hm] at h0
    injection h0 with h0; subst h0
    rw [Tr.run_bind] at hz
    obtain ⟨x, hx, hz⟩ := Option.bind_eq_some_iff.1 hz
    have hev := evT_ok hC n b hL _ _ _ hx
    unfold loopEv
    refine Option.bind_eq_some_iff.2 ⟨x.1, hev, ?_⟩
    obtain ⟨⟨e, st1⟩, kn⟩ := x
    cases e with
    | nrm =>
      simp only at hz ⊢
      rw [Tr.run_bind, Tr.run_of] at hz
      obtain ⟨s', hs', hz⟩ := Option.bind_eq_some_iff.1 hz
      injection hz with hz; subst hz
      exact iter_loop hC hk hL hB m st1 s' r y hs' h hy
    | exit i =>
      simp only at hz ⊢
      rw [Tr.run_bind, Tr.run_of] at hz
      obtain ⟨r', hr', hz⟩ := Option.bind_eq_some_iff.1 hz
      injection hz with hz; subst hz
      injection h with h; subst h
      rw [outX_fin c.an lb.id lb.xs _ _ _ hr'] at hy
      exact hy
    | ret =>
      simp only at hz ⊢
      rw [Tr.run_bind, Tr.run_of] at hz
      obtain ⟨r', hr', hz⟩ := Option.bind_eq_some_iff.1 hz
      injection hz with hz; subst hz
      injection h with h; subst h
      rw [outX_fin c.an lb.id lb.xs _ _ _ hr'] at hy
      exact hy
def annOf (bs : List LoopB) (cut home : Nat → Bool) : Ann := ⟨keepOf bs, cut, home⟩
def ctxOf (Γ : Tys) (l : List Law) (bs : List LoopB) (cut home : Nat → Bool) (n : Nat) : CtxT := ⟨Γ, sigsOf l, cpOf l, annOf bs cut home, LPof bs n⟩
theorem loop_law {Γ : Tys} {l : List Law} {bs : List LoopB} {cut home : Nat → Bool} {n : Nat} {b : Code} (hL : LpOk (ctxOf Γ l bs cut home n) (cOf l) n b) (hB : BodyOk (ctxOf Γ l bs cut home n) bs n b) : ∀ st x, ((ctxOf Γ l bs cut home n).LP (firstId b) st).run = some x → loopEv (annOf bs cut home) (firstId b) (ev ((ctxOf Γ l bs cut home n).to (cOf l)) n b) n st = some x := by
  intro st x h
  obtain ⟨lb, hf, hB⟩ := hB
  have hid : lb.id = firstId b := by simpa using List.find?_some hf
  have h' : (LPof bs n (firstId b) st).run = some x := h
  unfold LPof at h'
  rw [hf] at h'
  simp only at h'
  rw [Tr.run_bind, Tr.run_of] at h'
  obtain ⟨s, hs, h'⟩ := Option.bind_eq_some_iff.1 h'
  obtain ⟨r, hr, h'⟩ := Option.bind_eq_some_iff.1 h'
  rw [← hid]
  have hk : (annOf bs cut home).keep lb.id .nrm = some (lb.sh.frz, lb.sh.keep) := by
    show keepOf bs lb.id .nrm = _
    unfold keepOf
    rw [hid, hf]; rfl
  exact iter_loop (c := ctxOf Γ l bs cut home n) (cpOk l) hk hL hB n st s r x hs hr h'
theorem loops_ok {Γ : Tys} {l : List Law} {bs : List LoopB} {cut home : Nat → Bool} {n : Nat} : ∀ (c : Code), (∀ b ∈ allLoops c, BodyOk (ctxOf Γ l bs cut home n) bs n b) → ∀ b ∈ allLoops c, LpOk (ctxOf Γ l bs cut home n) (cOf l) n b ∧ ∀ st x, ((ctxOf Γ l bs cut home n).LP (firstId b) st).run = some x → loopEv (annOf bs cut home) (firstId b) (ev ((ctxOf Γ l bs cut home n).to (cOf l)) n b) n st = some x
  | .seq p q, h, b, hb => by
    rcases List.mem_append.mp hb with hb | hb
    · exact loops_ok p (fun b hb => h b (List.mem_append.mpr (.inl hb))) b hb
    · exact loops_ok q (fun b hb => h b (List.mem_append.mpr (.inr hb))) b hb
  | .cond _ p q, h, b, hb => by
    rcases List.mem_append.mp hb with hb | hb
    · exact loops_ok p (fun b hb => h b (List.mem_append.mpr (.inl hb))) b hb
    · exact loops_ok q (fun b hb => h b (List.mem_append.mpr (.inr hb))) b hb
  | .block _ p, h, b, hb => loops_ok p h b hb
  | .loop p, h, b, hb => by
    have ih := loops_ok p (fun b hb => h b (List.mem_cons_of_mem _ hb))
    rcases List.mem_cons.mp hb with rfl | hb
    · have hL : LpOk (ctxOf Γ l bs cut home n) (cOf l) n b := fun b' hb' => (ih b' (loopsIn_all _ _ hb')).2
      exact ⟨hL, loop_law hL (h b (by simp [allLoops]))⟩
    · exact ih b hb
  | .skip, _, _, h => by cases h
  | .label _, _, _, h => by cases h
  | .region .., _, _, h => by cases h
  | .exit _, _, _, h => by cases h
  | .ret, _, _, h => by cases h
  | .rangeFunc .., _, _, h => by cases h
  | .scope .., _, _, h => by cases h
  | .goto .., _, _, h => by cases h
  | .refuse .., _, _, h => by cases h
theorem lpOk_of {Γ : Tys} {l : List Law} {bs : List LoopB} {cut home : Nat → Bool} {n : Nat} {c : Code} (h : ∀ b ∈ allLoops c, BodyOk (ctxOf Γ l bs cut home n) bs n b) : LpOk (ctxOf Γ l bs cut home n) (cOf l) n c :=
  fun b hb => (loops_ok c h b (loopsIn_all _ _ hb)).2
/-- a function's law: its loops' trees, and what it comes to -/
theorem fnLaw {P : Program} {l : List Law} (hl : LawsOk P l) {Γ : Tys} (hΓ : TysOk P Γ) (hm : P.follows .mixedOrders = true) {f : FuncId} {fn : Func} (hf : P.funcs[f]? = some fn) (hn : (fn.name == "runtime.NumGoroutine") = false) {body : Code} (hb : fn.body = some body)
    (sig : Sig) (F : FnT) (bs : List LoopB) (cut home : Nat → Bool) (hB : ∀ n, ∀ b ∈ allLoops body, BodyOk (ctxOf Γ l bs cut home n) bs n b)
    (h : ∀ args outs, F args = some (true, outs) → ∃ n, (fnT (ctxOf Γ l bs cut home n) fn sig args).run = some outs) : LawOk P ⟨f, sig, F⟩ :=
  lawOk hl hΓ hm hf hn hb sig F (annOf bs cut home) (LPof bs) (fun args outs hF => by
    obtain ⟨n, hr⟩ := h args outs hF
    exact ⟨n, lpOk_of (hB n), hr⟩)
end Go.AM
end
section
namespace Go.AM
/-- an element -/
def gd {α : Type} [Inhabited α] (xs : List α) (i : Int) : α := xs.getD i.toNat default
def un (a b : List Nat) : List Nat := a ++ b.filter fun x => !a.contains x
def tmpsOf (l : List Operand) : List Nat := l.filterMap fun x => match x with | .tmp t => some t | _ => none
def liveOps (ops : Array Oper) : List Oper → List Nat → List Nat
  | [], out => out
  | o :: os, out =>
    let l := liveOps ops os out
    let l1 := match o.dst, o.guard with | some d, none => l.filter (· != d) | _, _ => l
    let g := match o.guard with | some (g, _) => (match (ops[g]?).bind (·.dst) with | some t => [t] | none => []) | none => []
    let st := match o.op with | .store _ (.tmp t) _ => [t] | _ => []
    un l1 (tmpsOf o.op.operands.toList ++ g ++ st)
def exGet (ex : List (Nat × List Nat)) (i : Nat) : List Nat := (ex.lookup i).getD []
def live (res : List Nat) : Code → List (Nat × List Nat) → List Nat → List Nat
  | .skip, _, out => out
  | .region _ ops _, _, out => liveOps ops ops.toList out
  | .seq a b, ex, out => live res a ex (live res b ex out)
  | .cond x t e, ex, out => un (un (tmpsOf [x]) (live res t ex out)) (live res e ex out)
  | .block id b, ex, out => live res b ((id, out) :: ex) out
  | .loop b, ex, out => let l0 := live res b ex []; let l1 := live res b ex l0; un l1 l0
  | .exit id, ex, _ => exGet ex id
  | .ret, _, _ => res
  | _, _, out => out
def loopInfo (res : List Nat) : Code → List (Nat × List Nat) → List Nat → List (Nat × List Nat × List (Nat × List Nat))
  | .seq a b, ex, out => loopInfo res a ex (live res b ex out) ++ loopInfo res b ex out
  | .cond _ t e, ex, out => loopInfo res t ex out ++ loopInfo res e ex out
  | .block id b, ex, out => loopInfo res b ((id, out) :: ex) out
  | .loop b, ex, out => let L := live res (.loop b) ex out; (firstId b, L, ex) :: loopInfo res b ex L
  | _, _, _ => []
def resTmps (l : List ResultVar) : List Nat := l.map fun r => match r with | .tmp t => t | .cell t _ => t
def homesOf : Code → List Nat
  | .region _ ops _ => ops.toList.filterMap fun o => match o.op with | .assign _ | .alloc _ | .box _ _ => o.dst | _ => none
  | .seq a b => homesOf a ++ homesOf b
  | .cond _ a b => homesOf a ++ homesOf b
  | .block _ b => homesOf b
  | .loop b => homesOf b
  | _ => []
def infoOf (fn : Func) := loopInfo (resTmps fn.results.toList) (fn.body.getD .skip) [] []
def homeL (fn : Func) : List Nat := (homesOf (fn.body.getD .skip)).eraseDups
/-- loops that have no law yet are left at their head -/
def LPhook (bs : List LoopB) (n : Nat) (id : Nat) (st : St) : Tr (Ex × St) :=
  match bs.find? fun b => b.id == id with
  | some _ => LPof bs n id st
  | none => .ret (.exit (1000000 + id), st)
def ctxHook (Γ : Tys) (l : List Law) (bs : List LoopB) (cut home : Nat → Bool) (n : Nat) : CtxT := ⟨Γ, sigsOf l, cpOf l, annOf bs cut home, LPhook bs n⟩
def fnTree (c : CtxT) (fn : Func) (sig : Sig) (args : List PA) : Tr ((Ex × St) × Kn) :=
  match initAll 0 sig.par args with
  | none => .fail
  | some x => evT c (fn.body.getD .skip) (initSt fn.ntmps x) []
def bodyTree (c : CtxT) (b : Code) (sh : Shape) (t : Tup sh.cts) : Tr ((Ex × St) × Kn) := (Tr.of (mk sh t)).bind fun st => evT c b st []
def nthLoop (c : Code) (i : Nat) : Code := (allLoops c).getD i .skip
def bodyOf (fn : Func) : Code := fn.body.getD .skip
def startF (fn : Func) (sig : Sig) (args : List PA) : Option St := (initAll 0 sig.par args).map fun x => initSt fn.ntmps x
end Go.AM
end
section
namespace Go.AM
@[match_pattern] abbrev LI : LT := .sl (.one (.int .i64))
@[match_pattern] abbrev i6 : LT := .int .i64
@[match_pattern] abbrev LB : LT := .bool
def w64 (x : Int) : Int := IntKind.i64.wrap x
theorem nth_mem {c b : Code} (h : b ∈ allLoops c) : ∃ i, i < (allLoops c).length ∧ b = nthLoop c i := by
  obtain ⟨i, hi, e⟩ := List.mem_iff_getElem.mp h
  refine ⟨i, hi, ?_⟩
  unfold nthLoop
  rw [List.getD_eq_getElem?_getD, List.getElem?_eq_getElem hi]
  exact e.symm
theorem allOf0 {P : Code → Prop} {c : Code} (hk : (allLoops c).length = 0)  : ∀ b ∈ allLoops c, P b := by
  intro b hb
  obtain ⟨i, hi, rfl⟩ := nth_mem hb
  rw [hk] at hi
  omega
theorem allOf1 {P : Code → Prop} {c : Code} (hk : (allLoops c).length = 1) (h0 : P (nthLoop c 0)) : ∀ b ∈ allLoops c, P b := by
  intro b hb
  obtain ⟨i, hi, rfl⟩ := nth_mem hb
  rw [hk] at hi
  have e : i = 0 := by omega
  rcases e with rfl
  · exact h0
theorem allOf2 {P : Code → Prop} {c : Code} (hk : (allLoops c).length = 2) (h0 : P (nthLoop c 0)) (h1 : P (nthLoop c 1)) : ∀ b ∈ allLoops c, P b := by
  intro b hb
  obtain ⟨i, hi, rfl⟩ := nth_mem hb
  rw [hk] at hi
  have e : i = 0 ∨ i = 1 := by omega
  rcases e with rfl | rfl
  · exact h0
  · exact h1
theorem allOf3 {P : Code → Prop} {c : Code} (hk : (allLoops c).length = 3) (h0 : P (nthLoop c 0)) (h1 : P (nthLoop c 1)) (h2 : P (nthLoop c 2)) : ∀ b ∈ allLoops c, P b := by
  intro b hb
  obtain ⟨i, hi, rfl⟩ := nth_mem hb
  rw [hk] at hi
  have e : i = 0 ∨ i = 1 ∨ i = 2 := by omega
  rcases e with rfl | rfl | rfl
  · exact h0
  · exact h1
  · exact h2
theorem allOf4 {P : Code → Prop} {c : Code} (hk : (allLoops c).length = 4) (h0 : P (nthLoop c 0)) (h1 : P (nthLoop c 1)) (h2 : P (nthLoop c 2)) (h3 : P (nthLoop c 3)) : ∀ b ∈ allLoops c, P b := by
  intro b hb
  obtain ⟨i, hi, rfl⟩ := nth_mem hb
  rw [hk] at hi
  have e : i = 0 ∨ i = 1 ∨ i = 2 ∨ i = 3 := by omega
  rcases e with rfl | rfl | rfl | rfl
  · exact h0
  · exact h1
  · exact h2
  · exact h3
theorem allOf5 {P : Code → Prop} {c : Code} (hk : (allLoops c).length = 5) (h0 : P (nthLoop c 0)) (h1 : P (nthLoop c 1)) (h2 : P (nthLoop c 2)) (h3 : P (nthLoop c 3)) (h4 : P (nthLoop c 4)) : ∀ b ∈ allLoops c, P b := by
  intro b hb
  obtain ⟨i, hi, rfl⟩ := nth_mem hb
  rw [hk] at hi
  have e : i = 0 ∨ i = 1 ∨ i = 2 ∨ i = 3 ∨ i = 4 := by omega
  rcases e with rfl | rfl | rfl | rfl | rfl
  · exact h0
  · exact h1
  · exact h2
  · exact h3
  · exact h4
theorem allOf6 {P : Code → Prop} {c : Code} (hk : (allLoops c).length = 6) (h0 : P (nthLoop c 0)) (h1 : P (nthLoop c 1)) (h2 : P (nthLoop c 2)) (h3 : P (nthLoop c 3)) (h4 : P (nthLoop c 4)) (h5 : P (nthLoop c 5)) : ∀ b ∈ allLoops c, P b := by
  intro b hb
  obtain ⟨i, hi, rfl⟩ := nth_mem hb
  rw [hk] at hi
  have e : i = 0 ∨ i = 1 ∨ i = 2 ∨ i = 3 ∨ i = 4 ∨ i = 5 := by omega
  rcases e with rfl | rfl | rfl | rfl | rfl | rfl
  · exact h0
  · exact h1
  · exact h2
  · exact h3
  · exact h4
  · exact h5
theorem allOf7 {P : Code → Prop} {c : Code} (hk : (allLoops c).length = 7) (h0 : P (nthLoop c 0)) (h1 : P (nthLoop c 1)) (h2 : P (nthLoop c 2)) (h3 : P (nthLoop c 3)) (h4 : P (nthLoop c 4)) (h5 : P (nthLoop c 5)) (h6 : P (nthLoop c 6)) : ∀ b ∈ allLoops c, P b := by
  intro b hb
  obtain ⟨i, hi, rfl⟩ := nth_mem hb
  rw [hk] at hi
  have e : i = 0 ∨ i = 1 ∨ i = 2 ∨ i = 3 ∨ i = 4 ∨ i = 5 ∨ i = 6 := by omega
  rcases e with rfl | rfl | rfl | rfl | rfl | rfl | rfl
  · exact h0
  · exact h1
  · exact h2
  · exact h3
  · exact h4
  · exact h5
  · exact h6
theorem allOf8 {P : Code → Prop} {c : Code} (hk : (allLoops c).length = 8) (h0 : P (nthLoop c 0)) (h1 : P (nthLoop c 1)) (h2 : P (nthLoop c 2)) (h3 : P (nthLoop c 3)) (h4 : P (nthLoop c 4)) (h5 : P (nthLoop c 5)) (h6 : P (nthLoop c 6)) (h7 : P (nthLoop c 7)) : ∀ b ∈ allLoops c, P b := by
  intro b hb
  obtain ⟨i, hi, rfl⟩ := nth_mem hb
  rw [hk] at hi
  have e : i = 0 ∨ i = 1 ∨ i = 2 ∨ i = 3 ∨ i = 4 ∨ i = 5 ∨ i = 6 ∨ i = 7 := by omega
  rcases e with rfl | rfl | rfl | rfl | rfl | rfl | rfl | rfl
  · exact h0
  · exact h1
  · exact h2
  · exact h3
  · exact h4
  · exact h5
  · exact h6
  · exact h7
end Go.AM
end
section
namespace Go.AM
/-- the tree ends well, in a value of which P holds -/
def Tr.ok {α : Type} (t : Tr α) (P : α → Prop) : Prop := ∃ a, t.run = some a ∧ P a
theorem ok_ret {α : Type} {a : α} {P : α → Prop} : (Tr.ret a).ok P ↔ P a :=
  ⟨fun ⟨b, h, hp⟩ => (by cases h; exact hp), fun h => ⟨a, rfl, h⟩⟩
theorem ok_fail {α : Type} {P : α → Prop} : (Tr.fail : Tr α).ok P ↔ False := ⟨fun ⟨_, h, _⟩ => (by cases h), False.elim⟩
theorem ok_br {α : Type} {b : Bool} {t e : Tr α} {P : α → Prop} : (Tr.br b t e).ok P ↔ if b = true then t.ok P else e.ok P := by
  cases b <;> exact Iff.rfl
theorem ok_brT {α : Type} {b : Bool} {t e : Tr α} {P : α → Prop} (hb : b = true) (h : t.ok P) : (Tr.br b t e).ok P := by rw [ok_br, if_pos hb]; exact h
theorem ok_brF {α : Type} {b : Bool} {t e : Tr α} {P : α → Prop} (hb : b = false) (h : e.ok P) : (Tr.br b t e).ok P := by rw [ok_br, if_neg (by rw [hb]; simp)]; exact h
theorem ok_brC {α : Type} {b : Bool} {t e : Tr α} {P : α → Prop} (ht : b = true → t.ok P) (he : b = false → e.ok P) : (Tr.br b t e).ok P := by
  cases h : b
  · exact ok_brF rfl (he h)
  · exact ok_brT rfl (ht h)
theorem ok_opt {α β : Type} {x : Option β} {f : β → Tr α} {P : α → Prop} {b : β} (hx : x = some b) (h : (f b).ok P) : (Tr.opt x f).ok P := by
  subst hx; exact h
theorem ok_suml {α β γ : Type} {b : β} {f : β → Tr α} {g : γ → Tr α} {P : α → Prop} : (Tr.sum (.inl b) f g).ok P ↔ (f b).ok P := Iff.rfl
theorem ok_sumr {α β γ : Type} {c : γ} {f : β → Tr α} {g : γ → Tr α} {P : α → Prop} : (Tr.sum (.inr c) f g).ok P ↔ (g c).ok P := Iff.rfl
theorem Tr.ok.mono {α : Type} {t : Tr α} {P Q : α → Prop} (h : t.ok P) (hpq : ∀ a, P a → Q a) : t.ok Q := by
  obtain ⟨a, h1, h2⟩ := h; exact ⟨a, h1, hpq a h2⟩
theorem ok_eq {α : Type} {t : Tr α} {r : α} : t.ok (fun a => a = r) ↔ t.run = some r :=
  ⟨fun ⟨a, h, e⟩ => by rw [← e]; exact h, fun h => ⟨r, h, rfl⟩⟩
/-- from some number of rounds on, it comes to this -/
def Ev {α : Type} (f : Nat → Tr α) (r : α) : Prop := ∃ N, ∀ n, N ≤ n → (f n).ok (fun a => a = r)
theorem Ev.any {α : Type} {f : Nat → Tr α} {r : α} (h : ∀ n, (f n).ok (fun a => a = r)) : Ev f r := ⟨0, fun n _ => h n⟩
theorem Ev.from {α : Type} {f : Nat → Tr α} {r : α} (N : Nat) (h : ∀ n, N ≤ n → (f n).ok (fun a => a = r)) : Ev f r := ⟨N, h⟩
/-- a loop, by an invariant and a measure -/
theorem it_rule {σ ρ : Type} {B : Nat → σ → Tr (σ ⊕ ρ)} (I : σ → Prop) (μ : σ → Nat) (Q : ρ → Prop) {n : Nat}
    (h : ∀ s, I s → (B n s).ok fun y => match y with | .inl s' => I s' ∧ μ s' < μ s | .inr r => Q r) (s : σ) (hs : I s) (hn : μ s < n) : ∃ r, it B n s = some r ∧ Q r := by
  have key : ∀ m s, I s → μ s < m → ∃ r, iter (fun s => (B n s).run) m s = some r ∧ Q r := by
    intro m
    induction m with
    | zero => intro s _ hm; omega
    | succ m ih =>
      intro s hs hm
      obtain ⟨y, hy, hq⟩ := h s hs
      unfold iter
      rw [hy]
      cases y with
      | inl s' => exact ih s' hq.1 (by have := hq.2; omega)
      | inr r => exact ⟨r, rfl, hq⟩
  exact key n s hs hn
theorem ok_it {α σ ρ : Type} {B : Nat → σ → Tr (σ ⊕ ρ)} {f : ρ → Tr α} {P : α → Prop} (I : σ → Prop) (μ : σ → Nat) (Q : ρ → Prop) {n : Nat} {s : σ}
    (hs : I s) (hn : μ s < n) (h : ∀ s, I s → (B n s).ok fun y => match y with | .inl s' => I s' ∧ μ s' < μ s | .inr r => Q r) (hf : ∀ r, Q r → (f r).ok P) : (Tr.opt (it B n s) f).ok P := by
  obtain ⟨r, hr, hq⟩ := it_rule I μ Q h s hs hn
  exact ok_opt hr (hf r hq)
theorem w64_id {x : Int} (h : -9223372036854775808 ≤ x ∧ x < 9223372036854775808) : w64 x = x := by
  unfold w64 IntKind.wrap
  simp [IntKind.signed, IntKind.bits]
  omega
theorem useF {α : Type} {c : Bool} {o outs : α} (h : some (c, o) = some (true, outs)) : c = true ∧ o = outs := by
  injection h with h; injection h with h1 h2; exact ⟨h1, h2⟩
theorem gd_eq {α : Type} [Inhabited α] {xs : List α} {i : Int} (h0 : 0 ≤ i) (h1 : i < (xs.length : Int)) : ∃ h : i.toNat < xs.length, gd xs i = xs[i.toNat] := by
  have h : i.toNat < xs.length := by omega
  exact ⟨h, by unfold gd; rw [List.getD_eq_getElem?_getD, List.getElem?_eq_getElem h]; rfl⟩
theorem Ev.law {α : Type} {f : Nat → Tr α} {g : Nat → Tr α} {r : α} (h : Ev f r) (hg : ∀ n, (g n).run = (f n).run) : ∃ n, (g n).run = some r := by
  obtain ⟨N, hN⟩ := h
  exact ⟨N, (hg N).trans (ok_eq.mp (hN N (Nat.le_refl _)))⟩
end Go.AM
end
section
namespace Pure
/-- the base -/
abbrev BB : Nat := 1000000000

/-- the digits of a number, the least first -/
def D (n : Nat) : List Int := if _h : n = 0 then [] else ((n % BB : Nat) : Int) :: D (n / BB)
termination_by n
decreasing_by exact Nat.div_lt_self (Nat.pos_of_ne_zero _h) (by decide)

/-- the value of digits -/
def V : List Int → Int
  | [] => 0
  | x :: l => x + 1000000000 * V l

def dig (l : List Int) : Prop := ∀ x ∈ l, 0 ≤ x ∧ x < 1000000000

theorem D_zero : D 0 = [] := by rw [D]; simp
theorem D_pos {n : Nat} (h : 0 < n) : D n = ((n % BB : Nat) : Int) :: D (n / BB) := by
  rw [D]; simp [Nat.pos_iff_ne_zero.mp h]

theorem D_ind {P : Nat → Prop} (h0 : P 0) (h1 : ∀ n, 0 < n → P (n / BB) → P n) (n : Nat) : P n := by
  induction n using Nat.strongRecOn with
  | _ n ih =>
    rcases Nat.eq_zero_or_pos n with rfl | h
    · exact h0
    · exact h1 n h (ih _ (Nat.div_lt_self h (by decide)))

theorem V_D (n : Nat) : V (D n) = n := by
  induction n using D_ind with
  | h0 => rw [D_zero]; rfl
  | h1 n h ih => rw [D_pos h]; simp only [V]; rw [ih]; simp only [BB]; omega

theorem dig_D (n : Nat) : dig (D n) := by
  induction n using D_ind with
  | h0 => rw [D_zero]; intro x hx; cases hx
  | h1 n h ih =>
    rw [D_pos h]; intro x hx
    rcases List.mem_cons.mp hx with rfl | hx
    · simp only [BB]; omega
    · exact ih x hx

theorem dig_nil : dig [] := fun _ h => by cases h
theorem dig_cons {x : Int} {l : List Int} : dig (x :: l) ↔ (0 ≤ x ∧ x < 1000000000) ∧ dig l := by
  constructor
  · intro h; exact ⟨h x (List.mem_cons_self ..), fun y hy => h y (List.mem_cons_of_mem _ hy)⟩
  · intro ⟨h, g⟩ y hy
    rcases List.mem_cons.mp hy with rfl | hy
    · exact h
    · exact g y hy
theorem dig_append {a b : List Int} : dig (a ++ b) ↔ dig a ∧ dig b := by
  constructor
  · intro h; exact ⟨fun x hx => h x (List.mem_append_left _ hx), fun x hx => h x (List.mem_append_right _ hx)⟩
  · intro ⟨h, g⟩ x hx
    rcases List.mem_append.mp hx with hx | hx
    · exact h x hx
    · exact g x hx

theorem V_nonneg {l : List Int} (h : dig l) : 0 ≤ V l := by
  induction l with
  | nil => simp [V]
  | cons x l ih => have := ih (dig_cons.mp h).2; have := (dig_cons.mp h).1; simp only [V]; omega

theorem V_append (a b : List Int) : V (a ++ b) = V a + 1000000000 ^ a.length * V b := by
  induction a with
  | nil => simp [V]
  | cons x l ih => simp only [List.cons_append, V, ih, List.length_cons, Int.pow_succ]; grind

theorem V_lt {l : List Int} (h : dig l) : V l < 1000000000 ^ l.length := by
  induction l with
  | nil => simp [V]
  | cons x l ih =>
    have h1 := ih (dig_cons.mp h).2; have h2 := (dig_cons.mp h).1
    simp only [V, List.length_cons, Int.pow_succ]; omega

/-- no zero at the end -/
def tight (l : List Int) : Prop := l = [] ∨ ∃ a x, l = a ++ [x] ∧ x ≠ 0

theorem tight_cons {x : Int} {l : List Int} (h : tight l) (hx : x ≠ 0 ∨ l ≠ []) : tight (x :: l) := by
  rcases h with rfl | ⟨a, y, rfl, hy⟩
  · right; exact ⟨[], x, rfl, by simpa using hx⟩
  · right; exact ⟨x :: a, y, rfl, hy⟩

theorem D_ne_nil {n : Nat} (h : 0 < n) : D n ≠ [] := by rw [D_pos h]; simp
theorem D_eq_nil {n : Nat} : D n = [] ↔ n = 0 := by
  constructor
  · intro h; rcases Nat.eq_zero_or_pos n with e | e
    · exact e
    · exact absurd h (D_ne_nil e)
  · rintro rfl; exact D_zero

theorem tight_D (n : Nat) : tight (D n) := by
  induction n using D_ind with
  | h0 => left; exact D_zero
  | h1 n h ih =>
    rw [D_pos h]
    apply tight_cons ih
    by_cases e : n / BB = 0
    · left; simp only [BB] at *; omega
    · right; exact D_ne_nil (Nat.pos_of_ne_zero e)

theorem tight_tail {x : Int} {l : List Int} (h : tight (x :: l)) : tight l := by
  rcases h with h | ⟨a, y, e, hy⟩
  · cases h
  · cases a with
    | nil => left; simp at e; exact e.2
    | cons z a => right; simp at e; exact ⟨a, y, e.2, hy⟩

theorem tight_zero {l : List Int} (h : dig l) (t : tight l) (hv : V l = 0) : l = [] := by
  rcases t with h' | ⟨a, x, rfl, hx⟩
  · exact h'
  · exfalso
    have h1 := dig_append.mp h
    have h2 := (dig_cons.mp h1.2).1
    rw [V_append] at hv
    simp only [V] at hv
    have h3 := V_nonneg h1.1
    have h4 : 0 < (1000000000 : Int) ^ a.length := Int.pow_pos (by decide)
    have h5 : (1000000000 : Int) ^ a.length * (x + 1000000000 * 0) > 0 := Int.mul_pos h4 (by omega)
    omega

theorem D_V {l : List Int} (h : dig l) (t : tight l) : D (V l).toNat = l := by
  induction l with
  | nil => exact D_zero
  | cons x l ih =>
    have h1 := dig_cons.mp h
    have h2 := V_nonneg h1.2
    have hp : 0 < (V (x :: l)).toNat := by
      have := V_nonneg h
      rcases Nat.eq_zero_or_pos (V (x :: l)).toNat with e | e
      · have e' : V (x :: l) = 0 := by omega
        have := tight_zero h t e'; cases this
      · exact e
    rw [D_pos hp]
    have e1 : (((V (x :: l)).toNat % BB : Nat) : Int) = x := by simp only [V, BB]; omega
    have e2 : (V (x :: l)).toNat / BB = (V l).toNat := by simp only [V, BB]; omega
    rw [e1, e2, ih h1.2 (tight_tail t)]

theorem D_of {l : List Int} (h : dig l) (t : tight l) : ∃ n, l = D n := ⟨_, (D_V h t).symm⟩
theorem D_inj {m n : Nat} (h : D m = D n) : m = n := by
  have := congrArg V h; rw [V_D, V_D] at this; omega

theorem D_len_lt (n : Nat) : n < BB ^ (D n).length := by
  have := V_lt (dig_D n); rw [V_D] at this
  have : ((BB ^ (D n).length : Nat) : Int) = (1000000000 : Int) ^ (D n).length := by simp [BB]
  omega

theorem D_len_ge {n : Nat} (h : 0 < n) : BB ^ ((D n).length - 1) ≤ n := by
  induction n using D_ind with
  | h0 => omega
  | h1 n hn ih =>
    rw [D_pos hn]; simp only [List.length_cons, Nat.add_sub_cancel]
    by_cases e : n / BB = 0
    · rw [e, D_zero]; simp; omega
    · have h2 := ih (Nat.pos_of_ne_zero e)
      have h3 : (D (n / BB)).length = (D (n / BB)).length - 1 + 1 := by
        have : 0 < (D (n / BB)).length := List.length_pos_iff.mpr (D_ne_nil (Nat.pos_of_ne_zero e)); omega
      rw [h3, Nat.pow_succ]
      exact (Nat.le_div_iff_mul_le (by decide)).mp h2

theorem D_len_le {n k : Nat} : (D n).length ≤ k ↔ n < BB ^ k := by
  constructor
  · intro h; exact Nat.lt_of_lt_of_le (D_len_lt n) (Nat.pow_le_pow_right (by decide) h)
  · intro h
    rcases Nat.eq_zero_or_pos n with rfl | hn
    · rw [D_zero]; simp
    · have h1 := D_len_ge hn
      have h2 : BB ^ ((D n).length - 1) < BB ^ k := Nat.lt_of_le_of_lt h1 h
      have h3 := (Nat.pow_lt_pow_iff_right (by decide : 1 < BB)).mp h2
      omega
end Pure
end
section
open Go Go.AM
/-- a value of which no more is known than that it is this one -/
noncomputable def sealed {α : Type} (a : α) : { x : α // x = a } := Classical.choice ⟨⟨a, rfl⟩⟩
namespace C0
open Pure
def nv (l : List Int) : Nat := (V l).toNat
/-- a number's digits -/
def okN (l : List Int) : Bool := decide (D (nv l) = l) && decide (l.length ≤ 1000)
def okD (l : List Int) : Bool := l.all (fun x => decide (0 ≤ x) && decide (x < 1000000000)) && decide (l.length ≤ 1000)
def sm (l : List Int) : Bool := decide (l.length ≤ 1099511627776)
def cmpN (a b : Nat) : Int := if a < b then -1 else if b < a then 1 else 0
def natOk (l : List Int) : Bool := decide (D (nv l) = l) && decide (l.length ≤ 60)
def sgI (n : Int) : Bool := decide (0 ≤ n) && decide (n < 9223372036854775808)
def isOne (l : List Int) : Bool := decide (l = [1])
def bigOk (b : Bool) (l : List Int) : Bool := natOk l && (decide (0 < l.length) || !b)
def ratOk (b : Bool) (l d : List Int) : Bool := bigOk b l && natOk d && !(d.isEmpty) && decide (l.length ≤ 24) && decide (d.length ≤ 24) && decide (Nat.gcd (nv d) (nv l) = 1)
def toI (a : List Int) : Int := if natOk a && decide (nv a < 9223372036854775808) then ((nv a : Nat) : Int) else 0
def toB (a : List Int) : Bool := natOk a && decide (nv a < 9223372036854775808)
end C0
namespace C
noncomputable def D : Nat → List Int := (sealed Pure.D).1
theorem D_eq : D = Pure.D := (sealed Pure.D).2
noncomputable def nv : List Int → Nat := (sealed C0.nv).1
theorem nv_eq : nv = C0.nv := (sealed C0.nv).2
noncomputable def okN : List Int → Bool := (sealed C0.okN).1
theorem okN_eq : okN = C0.okN := (sealed C0.okN).2
noncomputable def okD : List Int → Bool := (sealed C0.okD).1
theorem okD_eq : okD = C0.okD := (sealed C0.okD).2
noncomputable def sm : List Int → Bool := (sealed C0.sm).1
theorem sm_eq : sm = C0.sm := (sealed C0.sm).2
noncomputable def cmpN : Nat → Nat → Int := (sealed C0.cmpN).1
theorem cmpN_eq : cmpN = C0.cmpN := (sealed C0.cmpN).2
noncomputable def natOk : List Int → Bool := (sealed C0.natOk).1
theorem natOk_eq : natOk = C0.natOk := (sealed C0.natOk).2
noncomputable def sgI : Int → Bool := (sealed C0.sgI).1
theorem sgI_eq : sgI = C0.sgI := (sealed C0.sgI).2
noncomputable def isOne : List Int → Bool := (sealed C0.isOne).1
theorem isOne_eq : isOne = C0.isOne := (sealed C0.isOne).2
noncomputable def bigOk : Bool → List Int → Bool := (sealed C0.bigOk).1
theorem bigOk_eq : bigOk = C0.bigOk := (sealed C0.bigOk).2
noncomputable def ratOk : Bool → List Int → List Int → Bool := (sealed C0.ratOk).1
theorem ratOk_eq : ratOk = C0.ratOk := (sealed C0.ratOk).2
noncomputable def toI : List Int → Int := (sealed C0.toI).1
theorem toI_eq : toI = C0.toI := (sealed C0.toI).2
noncomputable def toB : List Int → Bool := (sealed C0.toB).1
theorem toB_eq : toB = C0.toB := (sealed C0.toB).2
noncomputable def emp : List Int → Bool := (sealed (fun l : List Int => l.isEmpty)).1
theorem emp_eq : emp = (fun l : List Int => l.isEmpty) := (sealed (fun l : List Int => l.isEmpty)).2
noncomputable def quo : Nat → Nat → Nat := (sealed (fun a b : Nat => a / b)).1
theorem quo_eq : quo = (fun a b : Nat => a / b) := (sealed (fun a b : Nat => a / b)).2
noncomputable def rem : Nat → Nat → Nat := (sealed (fun a b : Nat => a % b)).1
theorem rem_eq : rem = (fun a b : Nat => a % b) := (sealed (fun a b : Nat => a % b)).2
noncomputable def mul : Nat → Nat → Nat := (sealed (fun a b : Nat => a * b)).1
theorem mul_eq : mul = (fun a b : Nat => a * b) := (sealed (fun a b : Nat => a * b)).2
noncomputable def gcd : Nat → Nat → Nat := (sealed Nat.gcd).1
theorem gcd_eq : gcd = Nat.gcd := (sealed Nat.gcd).2
end C
open C
noncomputable def F_i_natCmp : FnT
  | [.pls [⟨LI, a⟩], .pls [⟨LI, b⟩]] => some (okN a && okN b, [[⟨i6, cmpN (nv a) (nv b)⟩]])
  | _ => none
noncomputable def F_i_trim : FnT
  | [.pls [⟨LI, a⟩]] => some (okD a, [[⟨LI, D (nv a)⟩]])
  | _ => none
noncomputable def F_i_copyInts : FnT
  | [.pls [⟨LI, a⟩]] => some (sm a, [[⟨LI, a⟩]])
  | _ => none
noncomputable def F_i_NatOf : FnT
  | [.pls [⟨i6, n⟩]] => some (sgI n, [[⟨LI, D n.toNat⟩]])
  | _ => none
noncomputable def F_i_natMul : FnT
  | [.pls [⟨LI, a⟩], .pls [⟨LI, b⟩]] => some (okN a && okN b, [[⟨LI, D (mul (nv a) (nv b))⟩]])
  | _ => none
noncomputable def F_i_natAdd : FnT
  | [.pls [⟨LI, a⟩], .pls [⟨LI, b⟩]] => some (okN a && okN b, [[⟨LI, D (nv a + nv b)⟩]])
  | _ => none
noncomputable def F_i_natSub : FnT
  | [.pls [⟨LI, a⟩], .pls [⟨LI, b⟩]] => some (okN a && okN b && decide (nv b ≤ nv a), [[⟨LI, D (nv a - nv b)⟩]])
  | _ => none
noncomputable def F_i_divSmall : FnT
  | [.pls [⟨LI, a⟩], .pls [⟨i6, d⟩]] => some (okN a && decide (0 < d) && decide (d < 1000000000), [[⟨LI, D (quo (nv a) d.toNat)⟩], [⟨LI, D (rem (nv a) d.toNat)⟩]])
  | _ => none
noncomputable def F_i_natDiv : FnT
  | [.pls [⟨LI, a⟩], .pls [⟨LI, b⟩]] => some (okN a && okN b && !(emp b), [[⟨LI, D (quo (nv a) (nv b))⟩], [⟨LI, D (rem (nv a) (nv b))⟩]])
  | _ => none
noncomputable def F_i_natGcd : FnT
  | [.pls [⟨LI, a⟩], .pls [⟨LI, b⟩]] => some (okN a && okN b && !(emp a), [[⟨LI, D (gcd (nv a) (nv b))⟩]])
  | _ => none
noncomputable def F_i_NatOk : FnT
  | [.pls [⟨LI, a⟩]] => some (sm a, [[⟨LB, natOk a⟩]])
  | _ => none
noncomputable def F_i_BigIntOk : FnT
  | [.pls [⟨LB, b⟩, ⟨LI, a⟩]] => some (sm a, [[⟨LB, bigOk b a⟩]])
  | _ => none
noncomputable def F_i_isOne : FnT
  | [.pls [⟨LI, a⟩]] => some (sm a, [[⟨LB, isOne a⟩]])
  | _ => none
noncomputable def F_i_RatOk : FnT
  | [.pls [⟨LB, b⟩, ⟨LI, a⟩, ⟨LI, d⟩]] => some (sm a && sm d, [[⟨LB, ratOk b a d⟩]])
  | _ => none
noncomputable def F_i_both : FnT
  | [.pls [⟨LB, b⟩, ⟨LI, a⟩, ⟨LI, d⟩], .pls [⟨LB, b'⟩, ⟨LI, a'⟩, ⟨LI, d'⟩]] => some (sm a && sm d && sm a' && sm d', [[⟨LB, ratOk b a d && ratOk b' a' d'⟩]])
  | _ => none
noncomputable def F_i_isZero : FnT
  | [.pls [⟨LB, b⟩, ⟨LI, a⟩, ⟨LI, d⟩]] => some (sm a, [[⟨LB, emp a⟩]])
  | _ => none
noncomputable def F_s_l01In : FnT
  | [.pls [⟨i6, n⟩], .pls [⟨i6, lo⟩], .pls [⟨i6, hi⟩]] => some (true, [[⟨LB, decide (lo ≤ n) && decide (n ≤ hi)⟩]])
  | _ => none
noncomputable abbrev F_s_NatOk := F_i_NatOk
noncomputable abbrev F_s_BigIntOk := F_i_BigIntOk
noncomputable abbrev F_s_l02Trim := F_i_trim
noncomputable abbrev F_s_l02Cmp := F_i_natCmp
noncomputable abbrev F_s_l02Mul := F_i_natMul
noncomputable abbrev F_s_l02Add := F_i_natAdd
noncomputable abbrev F_s_l02Sub := F_i_natSub
noncomputable def F_s_l02Small : FnT
  | [.pls [⟨LI, a⟩], .pls [⟨i6, d⟩]] => some (okN a && decide (0 < d) && decide (d < 1000000000), [[⟨LI, D (quo (nv a) d.toNat)⟩], [⟨i6, ((rem (nv a) d.toNat : Nat) : Int)⟩]])
  | _ => none
noncomputable def F_s_l02Digit : FnT
  | [.pls [⟨LI, r⟩], .pls [⟨LI, b⟩]] => some (okN r && okN b && !(emp b) && decide (nv r < mul 1000000000 (nv b)), [[⟨i6, ((quo (nv r) (nv b) : Nat) : Int)⟩]])
  | _ => none
noncomputable abbrev F_s_l02Div := F_i_natDiv
noncomputable abbrev F_s_NatOf := F_i_NatOf
noncomputable def F_s_NatToInt : FnT
  | [.pls [⟨LI, a⟩]] => some (sm a, [[⟨i6, toI a⟩], [⟨LB, toB a⟩]])
  | _ => none
noncomputable def F_s_l02Plain : FnT
  | [.pls [⟨i6, x⟩], .pls [⟨i6, y⟩]] => some (sgI x && sgI y, [[⟨LI, D (gcd x.toNat y.toNat)⟩]])
  | _ => none
noncomputable def F_s_l02Gcd : FnT
  | [.pls [⟨LI, a⟩], .pls [⟨LI, b⟩]] => some (okN a && okN b, [[⟨LI, D (gcd (nv a) (nv b))⟩]])
  | _ => none
noncomputable abbrev F_s_l04One := F_i_isOne
noncomputable abbrev F_s_RatOk := F_i_RatOk
noncomputable abbrev F_s_l05Nil := F_i_isZero
end
section
open Go Go.AM
namespace C0
mutual
def szT : (t : LT) → t.den → Nat
  | .int _, _ => 0
  | .bool, _ => 0
  | .str, s => s.size
  | .sl r, xs => xs.length + (xs.map (szR r)).sum
def szR : (r : Row) → r.den → Nat
  | .one t, x => szT t x
  | .cons t r, x => szT t x.1 + szR r x.2
end
def szPs : List PL → Nat
  | [] => 0
  | p :: ps => szT p.t p.x + szPs ps
mutual
def wlT : (t : LT) → t.den → Bool
  | .int _, _ => true
  | .bool, _ => true
  | .str, s => decide (s.size ≤ 9223372036854775807)
  | .sl r, xs => decide (xs.length ≤ 9223372036854775807) && xs.all (wlR r)
def wlR : (r : Row) → r.den → Bool
  | .one t, x => wlT t x
  | .cons t r, x => wlT t x.1 && wlR r x.2
end
def wl : List PL → Bool
  | [] => true
  | p :: ps => wlT p.t p.x && wl ps
def all2 {α : Type} (f : α → α → Bool) : List α → List α → Bool
  | [], [] => true
  | a :: as, b :: bs => f a b && all2 f as bs
  | _, _ => false
mutual
def eqT : (t : LT) → t.den → t.den → Bool
  | .int _, a, b => decide (a = b)
  | .bool, a, b => decide (a = b)
  | .str, a, b => a.toList == b.toList
  | .sl r, xs, ys => all2 (eqR r) xs ys
def eqR : (r : Row) → r.den → r.den → Bool
  | .one t, x, y => eqT t x y
  | .cons t r, x, y => eqT t x.1 y.1 && eqR r x.2 y.2
end
def castB (t : LT) (p : PL) : Option t.den := castT p.t t p.x
def eqPs : List PL → List PL → Bool
  | [], [] => true
  | p :: ps, q :: qs => (match castT q.t p.t q.x with | some y => eqT p.t p.x y | none => false) && eqPs ps qs
  | _, _ => false
def szc (n : Nat) (left : Int) : Int := if (n : Int) ≤ left then left - n else -1
def sz (ps : List PL) (left : Int) : Int := szc (szPs ps) left
def okLeft (left : Int) : Bool := decide (0 ≤ left) && decide (left ≤ 1048576)
def lim (ps : List PL) : Bool := decide (szPs ps ≤ 1048576)
end C0
namespace C
noncomputable def sz : List PL → Int → Int := (sealed C0.sz).1
theorem sz_eq : sz = C0.sz := (sealed C0.sz).2
noncomputable def wl : List PL → Bool := (sealed C0.wl).1
theorem wl_eq : wl = C0.wl := (sealed C0.wl).2
noncomputable def eqPs : List PL → List PL → Bool := (sealed C0.eqPs).1
theorem eqPs_eq : eqPs = C0.eqPs := (sealed C0.eqPs).2
noncomputable def okLeft : Int → Bool := (sealed C0.okLeft).1
theorem okLeft_eq : okLeft = C0.okLeft := (sealed C0.okLeft).2
noncomputable def lim : List PL → Bool := (sealed C0.lim).1
theorem lim_eq : lim = C0.lim := (sealed C0.lim).2
end C
end
section
open Go Go.AM
namespace C0
theorem szPs_cons (t : LT) (x : t.den) (ps : List PL) : szPs (⟨t, x⟩ :: ps) = szT t x + szPs ps := rfl
theorem szPs_nil : szPs [] = 0 := rfl
theorem szT_int (k : IntKind) (x : Int) : szT (.int k) x = 0 := rfl
theorem szT_bool (x : Bool) : szT .bool x = 0 := rfl
theorem szT_str (x : ByteArray) : szT .str x = x.size := rfl
theorem szT_sl (r : Row) (xs : List r.den) : szT (.sl r) xs = xs.length + (xs.map (szR r)).sum := rfl
theorem szR_one (t : LT) (x : t.den) : szR (.one t) x = szT t x := rfl
theorem szR_cons (t : LT) (r : Row) (x : t.den × r.den) : szR (.cons t r) x = szT t x.1 + szR r x.2 := rfl
theorem szT_LI (a : List Int) : szT LI a = a.length := by
  rw [szT_sl]
  have : ∀ l : List Int, (l.map (szR (.one i6))).sum = 0 := by
    intro l
    induction l with
    | nil => rfl
    | cons x l ih => rw [List.map_cons, List.sum_cons, ih]; rfl
  rw [this]; rfl
theorem wl_cons (t : LT) (x : t.den) (ps : List PL) : wl (⟨t, x⟩ :: ps) = (wlT t x && wl ps) := rfl
theorem wl_nil : wl [] = true := rfl
theorem wlT_int (k : IntKind) (x : Int) : wlT (.int k) x = true := rfl
theorem wlT_bool (x : Bool) : wlT .bool x = true := rfl
theorem wlT_str (x : ByteArray) : wlT .str x = decide (x.size ≤ 9223372036854775807) := rfl
theorem wlT_sl (r : Row) (xs : List r.den) : wlT (.sl r) xs = (decide (xs.length ≤ 9223372036854775807) && xs.all (wlR r)) := rfl
theorem wlR_one (t : LT) (x : t.den) : wlR (.one t) x = wlT t x := rfl
theorem wlR_cons (t : LT) (r : Row) (x : t.den × r.den) : wlR (.cons t r) x = (wlT t x.1 && wlR r x.2) := rfl
theorem eqPs_cons (t : LT) (x y : t.den) (ps qs : List PL) : eqPs (⟨t, x⟩ :: ps) (⟨t, y⟩ :: qs) = (eqT t x y && eqPs ps qs) := by
  have : castT t t y = some y := by simp [castT]
  rw [eqPs]
  simp only [this]
theorem eqPs_nil : eqPs [] [] = true := rfl
theorem eqT_int (k : IntKind) (x y : Int) : eqT (.int k) x y = decide (x = y) := rfl
theorem eqT_bool (x y : Bool) : eqT .bool x y = decide (x = y) := rfl
theorem eqT_str (x y : ByteArray) : eqT .str x y = (x.toList == y.toList) := rfl
theorem eqT_sl (r : Row) (xs ys : List r.den) : eqT (.sl r) xs ys = all2 (eqR r) xs ys := rfl
theorem eqR_one (t : LT) (x y : t.den) : eqR (.one t) x y = eqT t x y := rfl
theorem eqR_cons (t : LT) (r : Row) (x y : t.den × r.den) : eqR (.cons t r) x y = (eqT t x.1 y.1 && eqR r x.2 y.2) := rfl
mutual
theorem eqT_refl : ∀ (t : LT) (x : t.den), eqT t x x = true
  | .int _, x => by rw [eqT_int]; simp
  | .bool, x => by rw [eqT_bool]; simp
  | .str, x => by rw [eqT_str]; simp
  | .sl r, xs => by
    rw [eqT_sl]
    induction xs with
    | nil => rfl
    | cons x xs ih => show (eqR r x x && all2 (eqR r) xs xs) = true; rw [eqR_refl r x, ih]; rfl
theorem eqR_refl : ∀ (r : Row) (x : r.den), eqR r x x = true
  | .one t, x => by rw [eqR_one]; exact eqT_refl t x
  | .cons t r, x => by rw [eqR_cons, eqT_refl t x.1, eqR_refl r x.2]; rfl
end
theorem eqPs_refl : ∀ ps : List PL, eqPs ps ps = true
  | [] => rfl
  | ⟨t, x⟩ :: ps => by rw [eqPs_cons, eqT_refl, eqPs_refl ps]; rfl
theorem szT_split (r : Row) (xs : List r.den) (i : Nat) (h : i < xs.length) : ((xs.take (i + 1)).map (szR r)).sum = ((xs.take i).map (szR r)).sum + szR r xs[i] := by
  rw [← List.take_append_getElem h, List.map_append, List.sum_append]; simp
theorem szT_take (r : Row) (xs : List r.den) (i : Nat) : ((xs.take i).map (szR r)).sum ≤ (xs.map (szR r)).sum := by
  conv => rhs; rw [← List.take_append_drop i xs]
  rw [List.map_append, List.sum_append]; omega
end C0
namespace C
theorem sz_def (ps : List PL) (left : Int) : sz ps left = if (C0.szPs ps : Int) ≤ left then left - (C0.szPs ps : Int) else -1 := by rw [sz_eq]; rfl
theorem okLeft_def (left : Int) : okLeft left = true ↔ 0 ≤ left ∧ left ≤ 1048576 := by rw [okLeft_eq]; simp [C0.okLeft]
theorem lim_def (ps : List PL) : lim ps = true ↔ C0.szPs ps ≤ 1048576 := by rw [lim_eq]; simp [C0.lim]
end C
theorem sz_neg {ps : List PL} {left : Int} (h : C.sz ps left < 0) (hl : C.okLeft left = true) : C.sz ps left = -1 ∧ left < (C0.szPs ps : Int) := by
  rw [C.sz_def] at h ⊢
  rw [C.okLeft_def] at hl
  by_cases h1 : (C0.szPs ps : Int) ≤ left
  · rw [if_pos h1] at h; omega
  · rw [if_neg h1]; exact ⟨rfl, by omega⟩
theorem sz_nonneg {ps : List PL} {left : Int} (h : ¬ C.sz ps left < 0) (hl : C.okLeft left = true) : C.sz ps left = left - (C0.szPs ps : Int) ∧ (C0.szPs ps : Int) ≤ left ∧ C.okLeft (C.sz ps left) = true := by
  have h0 := h
  rw [C.sz_def] at h
  have hl' := (C.okLeft_def _).mp hl
  by_cases h1 : (C0.szPs ps : Int) ≤ left
  · have e : C.sz ps left = left - (C0.szPs ps : Int) := by rw [C.sz_def, if_pos h1]
    exact ⟨e, h1, by rw [C.okLeft_def, e]; omega⟩
  · rw [if_neg h1] at h; omega
theorem sz_same {ps qs : List PL} (h : C0.szPs ps = C0.szPs qs) (left : Int) : C.sz ps left = C.sz qs left := by rw [C.sz_def, C.sz_def, h]
theorem ok_szE {A all : List PL} {l : Int} (hS : C0.szPs all = C0.szPs A) (hw : C.wl A = true) (hl : C.okLeft l = true) :
    (Tr.br (C.wl A && C.okLeft l) (.br (decide (C.sz A l < 0)) (.ret ([[⟨i6, -1⟩]] : List (List PL))) (.ret [[⟨i6, C.sz A l⟩]])) .fail).ok (fun a => a = [[⟨i6, C.sz all l⟩]]) := by
  rw [sz_same hS]
  refine ok_brT (by rw [hw, hl]; rfl) (ok_brC (fun h => ?_) fun h => ok_ret.mpr rfl)
  rw [ok_ret, (sz_neg (of_decide_eq_true h) hl).1]
theorem ok_szS {A all : List PL} {l : Int} {K : Tr (List (List PL))} (B : List PL) (hS : C0.szPs all = C0.szPs A + C0.szPs B) (hw : C.wl A = true) (hl : C.okLeft l = true)
    (hK : C.okLeft (C.sz A l) = true → K.ok (fun a => a = [[⟨i6, C.sz B (C.sz A l)⟩]])) :
    (Tr.br (C.wl A && C.okLeft l) (.br (decide (C.sz A l < 0)) (.ret [[⟨i6, -1⟩]]) K) .fail).ok (fun a => a = [[⟨i6, C.sz all l⟩]]) := by
  refine ok_brT (by rw [hw, hl]; rfl) (ok_brC (fun h => ?_) fun h => ?_)
  · obtain ⟨h1, h2⟩ := sz_neg (of_decide_eq_true h) hl
    rw [ok_ret, C.sz_def, hS, if_neg (by omega)]
  · obtain ⟨h1, h2, h3⟩ := sz_nonneg (of_decide_eq_false h) hl
    refine (hK h3).mono fun a ha => ?_
    have e : C.sz B (C.sz A l) = C.sz all l := by
      rw [h1, C.sz_def B, C.sz_def all, hS]
      by_cases h4 : (C0.szPs B : Int) ≤ l - (C0.szPs A : Int)
      · rw [if_pos h4, if_pos (by omega)]; omega
      · rw [if_neg h4, if_neg (by omega)]
    rw [ha, e]
/-- a slice: its length first, then its elements one by one -/
theorem ok_szL {r : Row} {xs : List r.den} {l : Int} {K : Tr (List (List PL))} (hw : C.wl [⟨.sl r, xs⟩] = true) (hl : C.okLeft l = true)
    (hK : 0 ≤ l - (xs.length : Int) → w64 (l - (xs.length : Int)) = l - (xs.length : Int) → K.ok (fun a => a = [[⟨i6, C.sz [⟨.sl r, xs⟩] l⟩]])) :
    (Tr.br (decide (w64 (l - (xs.length : Int)) < 0)) (.ret [[⟨i6, -1⟩]]) K).ok (fun a => a = [[⟨i6, C.sz [⟨.sl r, xs⟩] l⟩]]) := by
  have hw' : xs.length ≤ 9223372036854775807 := by
    rw [C.wl_eq, C0.wl_cons, C0.wlT_sl] at hw
    simp only [Bool.and_eq_true, decide_eq_true_eq] at hw
    exact hw.1.1
  have hl' := (C.okLeft_def _).mp hl
  have e : w64 (l - (xs.length : Int)) = l - (xs.length : Int) := w64_id (by omega)
  rw [e] at hK ⊢
  refine ok_brC (fun h => ?_) fun h => hK (by have := of_decide_eq_false h; omega) rfl
  have := of_decide_eq_true h
  rw [ok_ret, C.sz_def, if_neg]
  rw [C0.szPs_cons, C0.szPs_nil, C0.szT_sl]; omega
end
section
open Go Go.AM
set_option linter.unusedVariables false
theorem sz_loop {r : Row} [Inhabited r.den] (xs : List r.den) (l : Int) (hl : C.okLeft l = true) (h0 : 0 ≤ l - (xs.length : Int)) {B : Nat → (List r.den × Int × Int) → Tr ((List r.den × Int × Int) ⊕ Int ⊕ Int)} {n : Nat} (hn : xs.length < n)
    (hB : ∀ i s, 0 ≤ i → i < (xs.length : Int) → C.okLeft s = true → (B n (xs, s, i)).ok fun y => if (C0.szR r (gd xs i) : Int) ≤ s then y = .inl (xs, s - (C0.szR r (gd xs i) : Int), i + 1) else y = .inr (.inl (-1)))
    (hE : ∀ i s, (xs.length : Int) ≤ i → (B n (xs, s, i)).ok fun y => y = .inr (.inr s)) :
    ∃ rr, it B n (xs, l - (xs.length : Int), 0) = some rr ∧ (rr = .inl (C.sz [⟨.sl r, xs⟩] l) ∨ rr = .inr (C.sz [⟨.sl r, xs⟩] l)) := by
  have hl' := (C.okLeft_def _).mp hl
  have hall : C0.szPs [⟨.sl r, xs⟩] = xs.length + (xs.map (C0.szR r)).sum := by rw [C0.szPs_cons, C0.szPs_nil, C0.szT_sl]; omega
  refine it_rule (B := B) (fun s => s.1 = xs ∧ 0 ≤ s.2.2 ∧ s.2.2 ≤ (xs.length : Int) ∧ 0 ≤ s.2.1 ∧ s.2.1 = l - (xs.length : Int) - (((xs.take s.2.2.toNat).map (C0.szR r)).sum : Int)) (fun s => ((xs.length : Int) - s.2.2).toNat)
    (fun rr => rr = .inl (C.sz [⟨.sl r, xs⟩] l) ∨ rr = .inr (C.sz [⟨.sl r, xs⟩] l)) ?_ _ ⟨rfl, Int.le_refl _, by show (0 : Int) ≤ (xs.length : Int); omega, h0, by simp⟩ (by show ((xs.length : Int) - 0).toNat < n; omega)
  rintro ⟨ys, s, i⟩ ⟨e0, h1, h2, h3, h4⟩
  simp only at e0 h1 h2 h3 h4 ⊢
  subst e0
  rcases Int.lt_or_le i (ys.length : Int) with h | h
  · refine (hB i s h1 h ((C.okLeft_def _).mpr ⟨h3, by omega⟩)).mono fun y hy => ?_
    obtain ⟨hi, hg⟩ := gd_eq h1 h
    have hs := C0.szT_split r ys i.toNat hi
    have ht := C0.szT_take r ys (i.toNat + 1)
    rw [hg] at hy
    split at hy
    · rename_i hle
      subst hy
      refine ⟨⟨rfl, by show 0 ≤ i + 1; omega, by show i + 1 ≤ _; omega, by show 0 ≤ s - _; omega, ?_⟩, by show ((ys.length : Int) - (i + 1)).toNat < _; omega⟩
      show s - _ = l - _ - _
      rw [show (i + 1).toNat = i.toNat + 1 by omega, hs, h4]; omega
    · rename_i hle
      subst hy
      left
      rw [C.sz_def, hall, if_neg (by omega)]
  · refine (hE i s h).mono fun y hy => ?_
    subst hy
    right
    have : (ys.take i.toNat) = ys := List.take_of_length_le (by omega)
    rw [this] at h4
    rw [C.sz_def, hall, if_pos (by omega), h4]
    congr 1; omega
theorem to_loop {α : Type} [Inhabited α] (xs : List α) (d : α) {B : Nat → (List α × Int × List α) → Tr ((List α × Int × List α) ⊕ List α)} {n : Nat} (hn : xs.length < n)
    (hB : ∀ i o, 0 ≤ i → i < (xs.length : Int) → o.length = xs.length → (B n (xs, i, o)).ok fun y => y = .inl (xs, i + 1, o.set i.toNat (gd xs i)))
    (hE : ∀ i o, (xs.length : Int) ≤ i → (B n (xs, i, o)).ok fun y => y = .inr o) : it B n (xs, 0, List.replicate xs.length d) = some xs := by
  obtain ⟨rr, h1, h2⟩ := it_rule (B := B) (fun s => s.1 = xs ∧ 0 ≤ s.2.1 ∧ s.2.1 ≤ (xs.length : Int) ∧ s.2.2 = xs.take s.2.1.toNat ++ List.replicate (xs.length - s.2.1.toNat) d) (fun s => ((xs.length : Int) - s.2.1).toNat) (fun rr => rr = xs) (n := n) (by
  rintro ⟨ys, i, o⟩ ⟨e0, h1, h2, h3⟩
  simp only at e0 h1 h2 h3 ⊢
  subst e0
  have hol : o.length = ys.length := by rw [h3]; simp; omega
  rcases Int.lt_or_le i (ys.length : Int) with h | h
  · refine (hB i o h1 h hol).mono fun y hy => ?_
    subst hy
    obtain ⟨hi, hg⟩ := gd_eq h1 h
    refine ⟨⟨rfl, by show 0 ≤ i + 1; omega, by show i + 1 ≤ _; omega, ?_⟩, by show ((ys.length : Int) - (i + 1)).toNat < _; omega⟩
    show o.set i.toNat (gd ys i) = ys.take (i + 1).toNat ++ List.replicate (ys.length - (i + 1).toNat) d
    rw [hg, h3, show (i + 1).toNat = i.toNat + 1 by omega, List.set_append_right _ _ (by simp; omega)]
    have e1 : (ys.take i.toNat).length = i.toNat := by simp; omega
    rw [e1, Nat.sub_self]
    have e2 : ys.length - i.toNat = (ys.length - (i.toNat + 1)) + 1 := by omega
    have e3 : ys.take (i.toNat + 1) = ys.take i.toNat ++ [ys[i.toNat]] := (List.take_append_getElem hi).symm
    rw [e2, List.replicate_succ, List.set_cons_zero, e3, List.append_assoc]
    rfl
  · refine (hE i o h).mono fun y hy => ?_
    subst hy
    show o = ys
    rw [h3, List.take_of_length_le (by omega), show ys.length - i.toNat = 0 by omega]; simp) (xs, 0, List.replicate xs.length d) ⟨rfl, Int.le_refl _, by simp, by simp⟩ (by simp; omega)
  rw [h1, h2]
theorem all2_take {α : Type} [Inhabited α] (f : α → α → Bool) : ∀ (xs ys : List α), xs.length = ys.length → (C0.all2 f xs ys = true ↔ ∀ i (h : i < xs.length) (h' : i < ys.length), f xs[i] ys[i] = true)
  | [], [], _ => by simp [C0.all2]
  | x :: xs, y :: ys, h => by
    have ih := all2_take f xs ys (by simpa using h)
    show (f x y && C0.all2 f xs ys) = true ↔ _
    rw [Bool.and_eq_true, ih]
    constructor
    · rintro ⟨h1, h2⟩ i hi hi'
      cases i with
      | zero => exact h1
      | succ i => exact h2 i (by simpa using hi) (by simpa using hi')
    · intro h1
      exact ⟨h1 0 (by simp) (by simp), fun i hi hi' => h1 (i + 1) (by simpa using hi) (by simpa using hi')⟩
  | [], _ :: _, h => by simp at h
  | _ :: _, [], h => by simp at h
theorem all2_len {α : Type} (f : α → α → Bool) : ∀ (xs ys : List α), xs.length ≠ ys.length → C0.all2 f xs ys = false
  | [], [], h => absurd rfl h
  | x :: xs, y :: ys, h => by
    show (f x y && C0.all2 f xs ys) = false
    rw [all2_len f xs ys (by simpa using h), Bool.and_false]
  | [], _ :: _, _ => rfl
  | _ :: _, [], _ => rfl
theorem eq_loop {α : Type} [Inhabited α] (f : α → α → Bool) (xs ys : List α) (hlen : xs.length = ys.length) {B : Nat → (List α × List α × Int) → Tr ((List α × List α × Int) ⊕ Bool ⊕ Unit)} {n : Nat} (hn : xs.length < n)
    (hB : ∀ i, 0 ≤ i → i < (xs.length : Int) → (B n (xs, ys, i)).ok fun y => if f (gd xs i) (gd ys i) = true then y = .inl (xs, ys, i + 1) else y = .inr (.inl false))
    (hE : ∀ i, (xs.length : Int) ≤ i → (B n (xs, ys, i)).ok fun y => y = .inr (.inr ())) :
    ∃ rr, it B n (xs, ys, 0) = some rr ∧ (if C0.all2 f xs ys = true then rr = .inr () else rr = .inl false) := by
  refine it_rule (B := B) (fun s => s.1 = xs ∧ s.2.1 = ys ∧ 0 ≤ s.2.2 ∧ s.2.2 ≤ (xs.length : Int) ∧ ∀ i (h : i < xs.length) (h' : i < ys.length), (i : Int) < s.2.2 → f xs[i] ys[i] = true) (fun s => ((xs.length : Int) - s.2.2).toNat)
    (fun rr => if C0.all2 f xs ys = true then rr = .inr () else rr = .inl false) ?_ _ ⟨rfl, rfl, Int.le_refl _, by simp, fun i _ _ h => by simp only at h; omega⟩ (by simp; omega)
  rintro ⟨as, bs, i⟩ ⟨e0, e00, h1, h2, h3⟩
  simp only at e0 e00 h1 h2 h3 ⊢
  subst e0 e00
  rcases Int.lt_or_le i (as.length : Int) with h | h
  · refine (hB i h1 h).mono fun y hy => ?_
    obtain ⟨hi, hg⟩ := gd_eq h1 h
    obtain ⟨hi', hg'⟩ := gd_eq (xs := bs) h1 (by omega)
    rw [hg, hg'] at hy
    split at hy
    · rename_i hf
      subst hy
      refine ⟨⟨rfl, rfl, by show 0 ≤ i + 1; omega, by show i + 1 ≤ _; omega, fun j hj hj' hlt => ?_⟩, by show ((as.length : Int) - (i + 1)).toNat < _; omega⟩
      rcases Int.lt_or_le (j : Int) i with h4 | h4
      · exact h3 j hj hj' h4
      · have : j = i.toNat := by simp only at hlt; omega
        subst this; exact hf
    · rename_i hf
      subst hy
      show if _ then _ else _
      rw [if_neg]
      intro hall
      exact hf ((all2_take f as bs hlen).mp hall i.toNat hi hi')
  · refine (hE i h).mono fun y hy => ?_
    subst hy
    show if _ then _ else _
    rw [if_pos]
    exact (all2_take f as bs hlen).mpr fun j hj hj' => h3 j hj hj' (by omega)
theorem eq_loop2 {α : Type} [Inhabited α] (f : α → α → Bool) (xs ys : List α) (hlen : xs.length = ys.length) {B : Nat → (List α × List α × Int × Int) → Tr ((List α × List α × Int × Int) ⊕ Bool ⊕ Unit)} {n : Nat} (hn : xs.length < n)
    (hB : ∀ i, 0 ≤ i → i < (xs.length : Int) → (B n (xs, ys, (xs.length : Int), i)).ok fun y => if f (gd xs i) (gd ys i) = true then y = .inl (xs, ys, (xs.length : Int), i + 1) else y = .inr (.inl false))
    (hE : ∀ i, (xs.length : Int) ≤ i → (B n (xs, ys, (xs.length : Int), i)).ok fun y => y = .inr (.inr ())) :
    ∃ rr, it B n (xs, ys, (xs.length : Int), 0) = some rr ∧ (if C0.all2 f xs ys = true then rr = .inr () else rr = .inl false) := by
  refine it_rule (B := B) (fun s => s.1 = xs ∧ s.2.1 = ys ∧ s.2.2.1 = (xs.length : Int) ∧ 0 ≤ s.2.2.2 ∧ s.2.2.2 ≤ (xs.length : Int) ∧ ∀ i (h : i < xs.length) (h' : i < ys.length), (i : Int) < s.2.2.2 → f xs[i] ys[i] = true) (fun s => ((xs.length : Int) - s.2.2.2).toNat)
    (fun rr => if C0.all2 f xs ys = true then rr = .inr () else rr = .inl false) ?_ _ ⟨rfl, rfl, rfl, Int.le_refl _, by simp, fun i _ _ h => by simp only at h; omega⟩ (by simp; omega)
  rintro ⟨as, bs, L, i⟩ ⟨e0, e00, e1, h1, h2, h3⟩
  simp only at e0 e00 e1 h1 h2 h3 ⊢
  subst e0 e00 e1
  rcases Int.lt_or_le i (as.length : Int) with h | h
  · refine (hB i h1 h).mono fun y hy => ?_
    obtain ⟨hi, hg⟩ := gd_eq h1 h
    obtain ⟨hi', hg'⟩ := gd_eq (xs := bs) h1 (by omega)
    rw [hg, hg'] at hy
    split at hy
    · rename_i hf
      subst hy
      refine ⟨⟨rfl, rfl, rfl, by show 0 ≤ i + 1; omega, by show i + 1 ≤ _; omega, fun j hj hj' hlt => ?_⟩, by show ((as.length : Int) - (i + 1)).toNat < _; omega⟩
      rcases Int.lt_or_le (j : Int) i with h4 | h4
      · exact h3 j hj hj' h4
      · have : j = i.toNat := by simp only at hlt; omega
        subst this; exact hf
    · rename_i hf
      subst hy
      show if _ then _ else _
      rw [if_neg]
      intro hall
      exact hf ((all2_take f as bs hlen).mp hall i.toNat hi hi')
  · refine (hE i h).mono fun y hy => ?_
    subst hy
    show if _ then _ else _
    rw [if_pos]
    exact (all2_take f as bs hlen).mpr fun j hj hj' => h3 j hj hj' (by omega)
theorem eq_loop3 {α : Type} [Inhabited α] (f : α → α → Bool) (xs ys : List α) (hlen : xs.length = ys.length) {B : Nat → (List α × List α × Int × Int) → Tr ((List α × List α × Int × Int) ⊕ Bool ⊕ Unit)} {n : Nat} (hn : xs.length < n)
    (hB : ∀ i, 0 ≤ i → i < (xs.length : Int) → (B n (ys, xs, (xs.length : Int), i)).ok fun y => if f (gd xs i) (gd ys i) = true then y = .inl (ys, xs, (xs.length : Int), i + 1) else y = .inr (.inl false))
    (hE : ∀ i, (xs.length : Int) ≤ i → (B n (ys, xs, (xs.length : Int), i)).ok fun y => y = .inr (.inr ())) :
    ∃ rr, it B n (ys, xs, (xs.length : Int), 0) = some rr ∧ (if C0.all2 f xs ys = true then rr = .inr () else rr = .inl false) := by
  refine it_rule (B := B) (fun s => s.2.1 = xs ∧ s.1 = ys ∧ s.2.2.1 = (xs.length : Int) ∧ 0 ≤ s.2.2.2 ∧ s.2.2.2 ≤ (xs.length : Int) ∧ ∀ i (h : i < xs.length) (h' : i < ys.length), (i : Int) < s.2.2.2 → f xs[i] ys[i] = true) (fun s => ((xs.length : Int) - s.2.2.2).toNat)
    (fun rr => if C0.all2 f xs ys = true then rr = .inr () else rr = .inl false) ?_ _ ⟨rfl, rfl, rfl, Int.le_refl _, by simp, fun i _ _ h => by simp only at h; omega⟩ (by simp; omega)
  rintro ⟨bs, as, L, i⟩ ⟨e0, e00, e1, h1, h2, h3⟩
  simp only at e0 e00 e1 h1 h2 h3 ⊢
  subst e0 e00 e1
  rcases Int.lt_or_le i (as.length : Int) with h | h
  · refine (hB i h1 h).mono fun y hy => ?_
    obtain ⟨hi, hg⟩ := gd_eq h1 h
    obtain ⟨hi', hg'⟩ := gd_eq (xs := bs) h1 (by omega)
    rw [hg, hg'] at hy
    split at hy
    · rename_i hf
      subst hy
      refine ⟨⟨rfl, rfl, rfl, by show 0 ≤ i + 1; omega, by show i + 1 ≤ _; omega, fun j hj hj' hlt => ?_⟩, by show ((as.length : Int) - (i + 1)).toNat < _; omega⟩
      rcases Int.lt_or_le (j : Int) i with h4 | h4
      · exact h3 j hj hj' h4
      · have : j = i.toNat := by simp only at hlt; omega
        subst this; exact hf
    · rename_i hf
      subst hy
      show if _ then _ else _
      rw [if_neg]
      intro hall
      exact hf ((all2_take f as bs hlen).mp hall i.toNat hi hi')
  · refine (hE i h).mono fun y hy => ?_
    subst hy
    show if _ then _ else _
    rw [if_pos]
    exact (all2_take f as bs hlen).mpr fun j hj hj' => h3 j hj hj' (by omega)
end
section
open Go Go.AM
@[match_pattern] abbrev RCand : Row := .cons i6 (.cons i6 (.cons i6 (.cons .bool (.cons LI (.cons LI (.cons .bool (.cons LI (.cons LI (.one i6)))))))))
abbrev DCand := Int × Int × Int × Bool × List Int × List Int × Bool × List Int × List Int × Int
@[match_pattern] abbrev RRat : Row := .cons .bool (.cons LI (.one LI))
namespace C0
def costAt (xs : List DCand) (k : Int) : Int :=
  if 0 ≤ k ∧ k < (xs.length : Int) ∧ 1 ≤ (gd xs k).2.2.2.2.2.2.2.2.2 ∧ (gd xs k).2.2.2.2.2.2.2.2.2 ≤ 1000 then (gd xs k).2.2.2.2.2.2.2.2.2 else 0
def planCost (xs : List DCand) (set : List Int) : Int := (set.map (costAt xs)).sum
end C0
namespace C
noncomputable def planCost : List DCand → List Int → Int := (sealed C0.planCost).1
theorem planCost_eq : planCost = C0.planCost := (sealed C0.planCost).2
end C
noncomputable def F_i_PlanCost : FnT
  | [.pls [⟨.sl RCand, xs⟩], .pls [⟨LI, set⟩]] => some (C.lim [⟨.sl RCand, xs⟩] && C.lim [⟨LI, set⟩], [[⟨i6, C.planCost xs set⟩]])
  | _ => none
noncomputable abbrev F_s_PlanCost := F_i_PlanCost
noncomputable def F_w_FnExactPlanCost : FnT
  | [.pls [⟨.sl RCand, xs⟩], .pls [⟨LI, set⟩]] => some (C.wl [⟨.sl RCand, xs⟩] && C.wl [⟨LI, set⟩], [[⟨LB, true⟩]])
  | _ => none
noncomputable def F_w_FnExactSameEstimates : FnT
  | [.pls [⟨.sl RRat, a0⟩, ⟨i6, a1⟩, ⟨i6, a2⟩, ⟨.sl RRat, a3⟩], .pls [⟨.sl RRat, b0⟩, ⟨i6, b1⟩, ⟨i6, b2⟩, ⟨.sl RRat, b3⟩]] => some (C.wl [⟨.sl RRat, a0⟩, ⟨i6, a1⟩, ⟨i6, a2⟩, ⟨.sl RRat, a3⟩] && C.wl [⟨.sl RRat, b0⟩, ⟨i6, b1⟩, ⟨i6, b2⟩, ⟨.sl RRat, b3⟩], [[⟨LB, true⟩]])
  | _ => none
end
section
namespace Go.AM
open Go.RowKit
set_option linter.unusedVariables false

def zvB : LT → Value → Bool
  | .int k, .int k' n => decide (k' = k) && decide (n = 0)
  | .bool, .bool b => !b
  | .str, .string s => decide (s.size = 0)
  | .sl _, .slice none 0 0 => true
  | _, _ => false
def zvsB : List LT → List Value → Bool
  | [], [] => true
  | t :: ts, v :: vs => zvB t v && zvsB ts vs
  | _, _ => false
theorem zvB_eq {t : LT} {v : Value} (h : zvB t v = true) : v = t.zv := by
  unfold zvB at h
  split at h
  · simp only [Bool.and_eq_true, decide_eq_true_eq] at h
    obtain ⟨rfl, rfl⟩ := h; rfl
  · rename_i b
    cases b with
    | true => cases h
    | false => rfl
  · rename_i s
    simp only [decide_eq_true_eq] at h
    have : s = ByteArray.empty := by
      apply ByteArray.ext
      exact Array.eq_empty_of_size_eq_zero h
    rw [this]; rfl
  · rfl
  · cases h
theorem zvsB_eq : ∀ (ts : List LT) (vs : List Value), zvsB ts vs = true → vs = ts.map LT.zv
  | [], [], _ => rfl
  | t :: ts, v :: vs, h => by
    simp only [zvsB, Bool.and_eq_true] at h
    rw [zvB_eq h.1, zvsB_eq ts vs h.2]; rfl
  | [], _ :: _, h => by cases h
  | _ :: _, [], h => by cases h
def descB (P : Program) : TD → TypeDesc → Bool
  | .other, _ => true
  | .bool, .bool => true
  | .int k, .int k' => decide (k' = k)
  | .str, .string => true
  | .slice e, .slice e' => decide (e' = e)
  | .struct fs, .struct F => decide (F.toList.map (fun f => (f.type, f.offset)) = fs) && F.toList.all (fun f => (P.info? f.type).isSome)
  | .arr n e, .array n' e' => decide (n' = n) && decide (e' = e)
  | _, _ => false
def aggB : Value → Bool | .agg _ => true | _ => false
def tyOkB (P : Program) (t : TypeId) (ti : TI) : Bool :=
  match P.info? t, P.underlying t with
  | some i, some d => decide (i.size = ti.size) && decide (i.bytes = ti.bytes) && (aggD d == ti.agg) && descB P ti.desc d &&
      (match ti.row with
        | none => true
        | some r => decide (r.len = ti.size) && (match i.zero with
          | some z => zvsB r.lts z.cells.toList && (if ti.agg = true then aggB z else z.oneCell')
          | none => false))
  | _, _ => false
theorem tyOkB_ok {P : Program} {t : TypeId} {ti : TI} (h : tyOkB P t ti = true) : TyOk P t ti := by
  unfold tyOkB at h
  split at h
  · rename_i i d hi hd
    simp only [Bool.and_eq_true, decide_eq_true_eq, beq_iff_eq] at h
    obtain ⟨⟨⟨⟨h1, h2⟩, h3⟩, h4⟩, h5⟩ := h
    refine ⟨i, d, hi, hd, h1, h2, h3, ?_, fun r hr => ?_⟩
    · clear h5
      cases htd : ti.desc with
      | other => trivial
      | bool => rw [htd] at h4; cases d <;> first | rfl | (cases h4; done)
      | str => rw [htd] at h4; cases d <;> first | rfl | (cases h4; done)
      | int k =>
        rw [htd] at h4
        cases d with
        | int k' => simp only [descB, decide_eq_true_eq] at h4; rw [h4]
        | _ => cases h4
      | slice e =>
        rw [htd] at h4
        cases d with
        | slice e' => simp only [descB, decide_eq_true_eq] at h4; rw [h4]
        | _ => cases h4
      | struct fs =>
        rw [htd] at h4
        cases d with
        | struct F =>
          simp only [descB, Bool.and_eq_true, decide_eq_true_eq, List.all_eq_true] at h4
          exact ⟨_, rfl, h4.1, fun f hf => Option.isSome_iff_exists.mp (h4.2 f hf)⟩
        | _ => cases h4
      | arr n e =>
        rw [htd] at h4
        cases d with
        | array n' e' => simp only [descB, Bool.and_eq_true, decide_eq_true_eq] at h4; rw [h4.1, h4.2]
        | _ => cases h4
    · rw [hr] at h5
      simp only [Bool.and_eq_true, decide_eq_true_eq] at h5
      refine ⟨h5.1, ?_⟩
      have h6 := h5.2
      split at h6
      · rename_i z hz
        simp only [Bool.and_eq_true] at h6
        refine ⟨z, hz, ?_, fun ha => ?_, fun ha => ?_⟩
        · rw [← Row.zv_lts]; exact zvsB_eq _ _ h6.1
        · have := h6.2
          rw [if_pos ha] at this
          unfold aggB at this
          split at this
          · exact ⟨_, rfl⟩
          · cases this
        · have := h6.2
          rw [if_neg (by rw [ha]; simp)] at this
          exact this
      · cases h6
  · cases h
abbrev Tab := List (Nat × TI)
def Tab.tys (tab : Tab) : Tys := ⟨fun t => (tab.find? fun x => x.1 == t).map (·.2)⟩
theorem Tab.ok {P : Program} {tab : Tab} (h : tab.all (fun x => tyOkB P x.1 x.2) = true) : TysOk P tab.tys := by
  intro t ti hg
  obtain ⟨x, hx, rfl⟩ := Option.map_eq_some_iff.1 hg
  have hm := List.mem_of_find?_eq_some hx
  have he := List.find?_some hx
  have := List.all_eq_true.mp h x hm
  have he' : x.1 = t := by simpa using he
  rw [← he']
  exact tyOkB_ok this
/-! ### tables made from a program (for a printer) -/
def lvs (P : Program) : Nat → TypeId → Option (List (LT × TypeId))
  | 0, _ => none
  | n + 1, t => match P.underlying t with
    | some (.int k) => some [(.int k, 0)]
    | some .bool => some [(.bool, 0)]
    | some .string => some [(.str, 0)]
    | some (.slice e) => (lvs P n e).bind fun l => match l.map (·.1) with
      | [] => none
      | t0 :: ts => some [(.sl (rowOf t0 ts), e)]
    | some (.struct F) => F.toList.foldl (fun acc f => acc.bind fun l => (lvs P n f.type).map fun m => l ++ m) (some [])
    | some (.array k e) => (lvs P n e).map fun l => (List.replicate k l).flatten
    | _ => none
where
  rowOf : LT → List LT → Row
  | t, [] => .one t
  | t, u :: us => .cons t (rowOf u us)
def tiOf (P : Program) (t : TypeId) : Option TI :=
  match P.info? t, P.underlying t with
  | some i, some d =>
    let l := (lvs P 20 t).getD []
    let row : Option Row := match l.map (·.1) with
      | [] => none
      | t0 :: ts => some (lvs.rowOf t0 ts)
    let desc : TD := match d with
      | .bool => .bool
      | .int k => .int k
      | .string => .str
      | .slice e => .slice e
      | .struct F => .struct (F.toList.map fun f => (f.type, f.offset))
      | .array n e => .arr n e
      | _ => .other
    let ti : TI := ⟨aggD d, i.size, i.bytes, desc, row, l.map (·.2)⟩
    if tyOkB P t ti = true then some ti else none
  | _, _ => none
end Go.AM
end
section
open Go.AM
def tab : Tab := [(2, ⟨false, 1, 8, (.int .i64), (some (.one (.int .i64))), [0]⟩),
  (3, ⟨false, 1, 8, (.int .i64), (some (.one (.int .i64))), [0]⟩),
  (4, ⟨false, 1, 1, .bool, (some (.one .bool)), [0]⟩),
  (5, ⟨false, 1, 1, (.int .u8), (some (.one (.int .u8))), [0]⟩),
  (9, ⟨false, 1, 16, .str, (some (.one .str)), [0]⟩),
  (26, ⟨false, 1, 24, (.slice 3), (some (.one (.sl (.one (.int .i64))))), [3]⟩),
  (31, ⟨false, 1, 24, (.slice 5), (some (.one (.sl (.one (.int .u8))))), [5]⟩),
  (37, ⟨false, 1, 24, (.slice 73), (some (.one (.sl (.cons (.int .i64) (.cons (.int .i64) (.cons (.int .i64) (.cons .bool (.cons (.sl (.one (.int .i64))) (.cons (.sl (.one (.int .i64))) (.cons .bool (.cons (.sl (.one (.int .i64))) (.cons (.sl (.one (.int .i64))) (.one (.int .i64)))))))))))))), [73]⟩),
  (40, ⟨false, 1, 24, (.slice 80), (some (.one (.sl (.cons (.int .i64) (.cons (.int .i64) (.cons (.int .i64) (.cons .bool (.cons (.sl (.one (.int .i64))) (.cons (.sl (.one (.int .i64))) (.cons .bool (.cons (.sl (.one (.int .i64))) (.cons (.sl (.one (.int .i64))) (.one (.int .i64)))))))))))))), [80]⟩),
  (44, ⟨false, 1, 24, (.slice 69), (some (.one (.sl (.cons .bool (.cons (.sl (.one (.int .i64))) (.one (.sl (.one (.int .i64))))))))), [69]⟩),
  (45, ⟨true, 3, 40, (.struct [(3, 0), (3, 1), (44, 2)]), (some (.cons (.int .i64) (.cons (.int .i64) (.one (.sl (.cons .bool (.cons (.sl (.one (.int .i64))) (.one (.sl (.one (.int .i64))))))))))), [0, 0, 69]⟩),
  (46, ⟨true, 3, 40, (.struct [(3, 0), (3, 1), (44, 2)]), (some (.cons (.int .i64) (.cons (.int .i64) (.one (.sl (.cons .bool (.cons (.sl (.one (.int .i64))) (.one (.sl (.one (.int .i64))))))))))), [0, 0, 69]⟩),
  (47, ⟨true, 4, 64, (.struct [(44, 0), (46, 1)]), (some (.cons (.sl (.cons .bool (.cons (.sl (.one (.int .i64))) (.one (.sl (.one (.int .i64))))))) (.cons (.int .i64) (.cons (.int .i64) (.one (.sl (.cons .bool (.cons (.sl (.one (.int .i64))) (.one (.sl (.one (.int .i64)))))))))))), [69, 0, 0, 69]⟩),
  (48, ⟨true, 4, 64, (.struct [(44, 0), (46, 1)]), (some (.cons (.sl (.cons .bool (.cons (.sl (.one (.int .i64))) (.one (.sl (.one (.int .i64))))))) (.cons (.int .i64) (.cons (.int .i64) (.one (.sl (.cons .bool (.cons (.sl (.one (.int .i64))) (.one (.sl (.one (.int .i64)))))))))))), [69, 0, 0, 69]⟩),
  (51, ⟨false, 1, 24, (.slice 76), (some (.one (.sl (.cons .bool (.cons (.sl (.one (.int .i64))) (.one (.sl (.one (.int .i64))))))))), [76]⟩),
  (52, ⟨true, 3, 40, (.struct [(3, 0), (3, 1), (51, 2)]), (some (.cons (.int .i64) (.cons (.int .i64) (.one (.sl (.cons .bool (.cons (.sl (.one (.int .i64))) (.one (.sl (.one (.int .i64))))))))))), [0, 0, 76]⟩),
  (53, ⟨true, 3, 40, (.struct [(3, 0), (3, 1), (51, 2)]), (some (.cons (.int .i64) (.cons (.int .i64) (.one (.sl (.cons .bool (.cons (.sl (.one (.int .i64))) (.one (.sl (.one (.int .i64))))))))))), [0, 0, 76]⟩),
  (54, ⟨true, 4, 64, (.struct [(51, 0), (53, 1)]), (some (.cons (.sl (.cons .bool (.cons (.sl (.one (.int .i64))) (.one (.sl (.one (.int .i64))))))) (.cons (.int .i64) (.cons (.int .i64) (.one (.sl (.cons .bool (.cons (.sl (.one (.int .i64))) (.one (.sl (.one (.int .i64)))))))))))), [76, 0, 0, 76]⟩),
  (55, ⟨true, 4, 64, (.struct [(51, 0), (53, 1)]), (some (.cons (.sl (.cons .bool (.cons (.sl (.one (.int .i64))) (.one (.sl (.one (.int .i64))))))) (.cons (.int .i64) (.cons (.int .i64) (.one (.sl (.cons .bool (.cons (.sl (.one (.int .i64))) (.one (.sl (.one (.int .i64)))))))))))), [76, 0, 0, 76]⟩),
  (60, ⟨false, 1, 24, (.slice 3), (some (.one (.sl (.one (.int .i64))))), [3]⟩),
  (66, ⟨true, 2, 32, (.struct [(4, 0), (26, 1)]), (some (.cons .bool (.one (.sl (.one (.int .i64)))))), [0, 3]⟩),
  (67, ⟨true, 2, 32, (.struct [(4, 0), (26, 1)]), (some (.cons .bool (.one (.sl (.one (.int .i64)))))), [0, 3]⟩),
  (68, ⟨true, 3, 56, (.struct [(67, 0), (26, 2)]), (some (.cons .bool (.cons (.sl (.one (.int .i64))) (.one (.sl (.one (.int .i64))))))), [0, 3, 3]⟩),
  (69, ⟨true, 3, 56, (.struct [(67, 0), (26, 2)]), (some (.cons .bool (.cons (.sl (.one (.int .i64))) (.one (.sl (.one (.int .i64))))))), [0, 3, 3]⟩),
  (70, ⟨true, 9, 136, (.struct [(3, 0), (3, 1), (3, 2), (69, 3), (69, 6)]), (some (.cons (.int .i64) (.cons (.int .i64) (.cons (.int .i64) (.cons .bool (.cons (.sl (.one (.int .i64))) (.cons (.sl (.one (.int .i64))) (.cons .bool (.cons (.sl (.one (.int .i64))) (.one (.sl (.one (.int .i64))))))))))))), [0, 0, 0, 0, 3, 3, 0, 3, 3]⟩),
  (71, ⟨true, 9, 136, (.struct [(3, 0), (3, 1), (3, 2), (69, 3), (69, 6)]), (some (.cons (.int .i64) (.cons (.int .i64) (.cons (.int .i64) (.cons .bool (.cons (.sl (.one (.int .i64))) (.cons (.sl (.one (.int .i64))) (.cons .bool (.cons (.sl (.one (.int .i64))) (.one (.sl (.one (.int .i64))))))))))))), [0, 0, 0, 0, 3, 3, 0, 3, 3]⟩),
  (72, ⟨true, 10, 144, (.struct [(71, 0), (3, 9)]), (some (.cons (.int .i64) (.cons (.int .i64) (.cons (.int .i64) (.cons .bool (.cons (.sl (.one (.int .i64))) (.cons (.sl (.one (.int .i64))) (.cons .bool (.cons (.sl (.one (.int .i64))) (.cons (.sl (.one (.int .i64))) (.one (.int .i64)))))))))))), [0, 0, 0, 0, 3, 3, 0, 3, 3, 0]⟩),
  (73, ⟨true, 10, 144, (.struct [(71, 0), (3, 9)]), (some (.cons (.int .i64) (.cons (.int .i64) (.cons (.int .i64) (.cons .bool (.cons (.sl (.one (.int .i64))) (.cons (.sl (.one (.int .i64))) (.cons .bool (.cons (.sl (.one (.int .i64))) (.cons (.sl (.one (.int .i64))) (.one (.int .i64)))))))))))), [0, 0, 0, 0, 3, 3, 0, 3, 3, 0]⟩),
  (74, ⟨true, 2, 32, (.struct [(4, 0), (26, 1)]), (some (.cons .bool (.one (.sl (.one (.int .i64)))))), [0, 3]⟩),
  (75, ⟨true, 3, 56, (.struct [(74, 0), (26, 2)]), (some (.cons .bool (.cons (.sl (.one (.int .i64))) (.one (.sl (.one (.int .i64))))))), [0, 3, 3]⟩),
  (76, ⟨true, 3, 56, (.struct [(74, 0), (26, 2)]), (some (.cons .bool (.cons (.sl (.one (.int .i64))) (.one (.sl (.one (.int .i64))))))), [0, 3, 3]⟩),
  (77, ⟨true, 9, 136, (.struct [(3, 0), (3, 1), (3, 2), (76, 3), (76, 6)]), (some (.cons (.int .i64) (.cons (.int .i64) (.cons (.int .i64) (.cons .bool (.cons (.sl (.one (.int .i64))) (.cons (.sl (.one (.int .i64))) (.cons .bool (.cons (.sl (.one (.int .i64))) (.one (.sl (.one (.int .i64))))))))))))), [0, 0, 0, 0, 3, 3, 0, 3, 3]⟩),
  (78, ⟨true, 9, 136, (.struct [(3, 0), (3, 1), (3, 2), (76, 3), (76, 6)]), (some (.cons (.int .i64) (.cons (.int .i64) (.cons (.int .i64) (.cons .bool (.cons (.sl (.one (.int .i64))) (.cons (.sl (.one (.int .i64))) (.cons .bool (.cons (.sl (.one (.int .i64))) (.one (.sl (.one (.int .i64))))))))))))), [0, 0, 0, 0, 3, 3, 0, 3, 3]⟩),
  (79, ⟨true, 10, 144, (.struct [(78, 0), (3, 9)]), (some (.cons (.int .i64) (.cons (.int .i64) (.cons (.int .i64) (.cons .bool (.cons (.sl (.one (.int .i64))) (.cons (.sl (.one (.int .i64))) (.cons .bool (.cons (.sl (.one (.int .i64))) (.cons (.sl (.one (.int .i64))) (.one (.int .i64)))))))))))), [0, 0, 0, 0, 3, 3, 0, 3, 3, 0]⟩),
  (80, ⟨true, 10, 144, (.struct [(78, 0), (3, 9)]), (some (.cons (.int .i64) (.cons (.int .i64) (.cons (.int .i64) (.cons .bool (.cons (.sl (.one (.int .i64))) (.cons (.sl (.one (.int .i64))) (.cons .bool (.cons (.sl (.one (.int .i64))) (.cons (.sl (.one (.int .i64))) (.one (.int .i64)))))))))))), [0, 0, 0, 0, 3, 3, 0, 3, 3, 0]⟩),
  (90, ⟨true, 3, 40, (.struct [(31, 0), (3, 1), (3, 2)]), (some (.cons (.sl (.one (.int .u8))) (.cons (.int .i64) (.one (.int .i64))))), [5, 0, 0]⟩)]
end
