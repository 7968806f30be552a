/- Regions that draw their order: a schedule says which operations may be taken first (they only look) and which come next, whatever is drawn. -/
import Derived.Test.YtcmdmcekbmodaaaHp
import Derived.Still
namespace Go.Vc
open Go Go.RowKit
set_option linter.unusedVariables false

section
variable {P : Program} {ops : Array Oper} {C : World → Prop}

/-- In state 'a', in every world of the class, the operation leaves the world alone and yields 'v'. -/
def YieldsC (P : Program) (ops : Array Oper) (C : World → Prop) (o : Oper) (v : Value) (a : Act) : Prop :=
  (Region.wanted o (yielded ops a.tmps) = true ∧ ∀ w, C w → (execOp a.eval o).run P w = .ok (.value v) w) ∨
  (Region.wanted o (yielded ops a.tmps) = false ∧ v = undef)
theorem YieldsC.of_same {o : Oper} {v : Value} {a a' : Act} (hy : YieldsC P ops C o v a) (he : execOp a'.eval o = execOp a.eval o)
    (hw : Region.wanted o (yielded ops a'.tmps) = Region.wanted o (yielded ops a.tmps)) : YieldsC P ops C o v a' := by
  unfold YieldsC at *
  rw [he, hw]
  exact hy
theorem YieldsC.wpOp {i : Nat} {o : Oper} {v : Value} {a : Act} {Q : Exit → Act → World → Prop} (hi : ops[i]? = some o) (hy : YieldsC P ops C o v a)
    {K : Act → World → Prop} {w : World} (hC : C w) (h : K (a.put o.dst v) w) : wpOp P ops Q i K a w := by
  unfold Go.wpOp
  simp only [hi]
  rcases hy with ⟨hw, hv⟩ | ⟨hw, rfl⟩
  · simp only [hw, if_true, Oper.wp, hv w hC, Oper.upon]; exact .inl h
  · simp only [hw, Bool.false_eq_true, if_false]; exact h

theorem wpOp_putC {Q : Exit → Act → World → Prop} {j : Nat} {oi oj : Oper} {v : Value} (hj : ops[j]? = some oj) (hap : oi.apart ops oj = true)
    (hsi : ∀ cs b, oi.op ≠ .select cs b) (hsj : ∀ cs b, oj.op ≠ .select cs b)
    (hQ : ∀ c a w, Q (.panic c) (a.put oi.dst v) w → Q (.panic c) a w) {K : Act → World → Prop} {a : Act} {w : World}
    (hy : YieldsC P ops C oi v a) (h : wpOp P ops Q j K (a.put oi.dst v) w) :
    wpOp P ops Q j (fun a' w' => YieldsC P ops C oi v a' ∧ K (a'.put oi.dst v) w') a w := by
  obtain ⟨h1, h2, h3⟩ := Oper.apart_spec hap
  have keep : ∀ (a : Act), YieldsC P ops C oi v a → ∀ u, YieldsC P ops C oi v (a.put oj.dst u) := fun a hy u =>
    hy.of_same (execOp_put oi hsi a oj.dst u h3) (wanted_put oi a oj.dst u h3)
  have keepD : ∀ d, YieldsC P ops C oi v { a with defers := d :: a.defers } := fun d => hy.of_same rfl rfl
  unfold Go.wpOp at *
  simp only [hj] at *
  rw [wanted_put oj a oi.dst v h1] at h
  split
  · rename_i hw
    simp only [hw, if_true] at h
    rcases h with h | ⟨hasks, hlets⟩
    case inr => exact .inr ⟨by unfold Oper.asks at *; rw [execOp_put oj hsj a oi.dst v h1] at hasks; exact hasks, hlets⟩
    refine .inl ?_
    unfold Oper.wp at *
    rw [execOp_put oj hsj a oi.dst v h1] at h
    generalize (execOp a.eval oj).run P w = r at *
    cases r with
    | ok n w' =>
      cases n <;> simp only [Oper.upon] at h ⊢
      case value u => exact ⟨keep a hy u, by rw [← Act.put_comm a v u h2]; exact h⟩
      case skip => exact ⟨keep a hy _, by rw [← Act.put_comm a v undef h2]; exact h⟩
      case defer d =>
        refine ⟨keep _ (keepD d) _, ?_⟩
        rw [← Act.put_comm _ v undef h2, ← Act.put_defers]
        exact h
      case enter f args =>
        refine Calls.mono h fun e w'' he => ?_
        cases e with
        | returned u => exact ⟨keep a hy u, by rw [← Act.put_comm a v u h2]; exact he⟩
        | panicked c => exact hQ _ _ _ he
        | outgrown => exact he
      case row row args => exact Rows.mono h fun u w'' he => ⟨keep a hy u, by rw [← Act.put_comm a v u h2]; exact he⟩
    | halt x w' =>
      cases x <;> simp only [Oper.upon] at h ⊢
      case panic u => exact hQ _ _ _ h
  · rename_i hw
    simp only [hw] at h
    exact ⟨keep a hy _, by rw [← Act.put_comm a v undef h2]; exact h⟩

def wpAnyC (P : Program) (ops : Array Oper) (C : World → Prop) (Q : Exit → Act → World → Prop) : Nat → Array Bool → Act → World → Prop
  | 0, listed, a, w => Region.ready .any ops listed = [] ∧ Q .normal a w
  | fuel + 1, listed, a, w =>
    (Region.ready .any ops listed = [] → Q .normal a w) ∧
    ∀ i ∈ Region.ready .any ops listed, wpOp P ops Q i (fun a' w' => C w' ∧ wpAnyC P ops C Q fuel (listed.setIfInBounds i true) a' w') a w
theorem wpAny_of_C {Q : Exit → Act → World → Prop} : ∀ (fuel : Nat) (listed : Array Bool) (a : Act) (w : World), wpAnyC P ops C Q fuel listed a w → wpAny P .any ops Q fuel listed a w
  | 0, _, _, _, h => h
  | fuel + 1, listed, a, w, h => ⟨h.1, fun i hi => wpOp_mono (fun a' w' hh => wpAny_of_C fuel _ a' w' hh.2) (h.2 i hi)⟩

theorem first_C {Q : Exit → Act → World → Prop} {i : Nat} {oi : Oper} {v : Value} (hi : ops[i]? = some oi) (hsel : ∀ (j : Nat) (o : Oper) cs b, ops[j]? = some o → o.op ≠ .select cs b)
    (hQ : ∀ c a w, Q (.panic c) (a.put oi.dst v) w → Q (.panic c) a w) :
    ∀ (fuel : Nat) (listed : Array Bool) (a : Act) (w : World), C w →
      (∀ j oj, ops[j]? = some oj → j ≠ i → listed.getD j true = false → (∀ e ∈ oj.after, Region.binds .any e = true → e.on ≠ i) → oi.apart ops oj = true) →
      i ∈ Region.ready .any ops listed → YieldsC P ops C oi v a →
      wpAnyC P ops C Q fuel (listed.setIfInBounds i true) (a.put oi.dst v) w → wpAnyC P ops C Q (fuel + 1) listed a w := by
  intro fuel
  induction fuel with
  | zero =>
    intro listed a w hC _ hr hy H
    refine ⟨fun h => (by rw [h] at hr; cases hr), fun j hj => ?_⟩
    by_cases hji : j = i
    · subst hji; exact hy.wpOp hi hC ⟨hC, H⟩
    · have := ready_mono hj hji
      rw [H.1] at this
      cases this
  | succ fuel ih =>
    intro listed a w hC hfree hr hy H
    refine ⟨fun h => (by rw [h] at hr; cases hr), fun j hj => ?_⟩
    by_cases hji : j = i
    · subst hji; exact hy.wpOp hi hC ⟨hC, H⟩
    · have h1 := H.2 j (ready_mono hj hji)
      obtain ⟨hjun, oj, hoj, hall⟩ := mem_ready.1 hj
      have hnot : ∀ e ∈ oj.after, Region.binds .any e = true → e.on ≠ i := fun e he hb heq => by
        have h1 := hall e he hb
        have h0 := (mem_ready.1 hr).1
        rw [heq] at h1
        rcases Nat.lt_or_ge i listed.size with h' | h'
        · simp [h'] at h0 h1; rw [h0] at h1; cases h1
        · simp [Array.getElem?_eq_none h'] at h1
      have h2 := wpOp_putC hoj (hfree j oj hoj hji hjun hnot) (fun cs b => hsel i oi cs b hi) (fun cs b => hsel j oj cs b hoj) hQ hy h1
      have hfree' : ∀ k ok, ops[k]? = some ok → k ≠ i → (listed.setIfInBounds j true).getD k true = false →
          (∀ e ∈ ok.after, Region.binds .any e = true → e.on ≠ i) → oi.apart ops ok = true := fun k ok hk hki hun hno => by
        refine hfree k ok hk hki ?_ hno
        by_cases hjk : j = k
        · subst hjk; exact hjun
        · rw [getD_set_ne true hjk] at hun; exact hun
      refine wpOp_mono (fun a' w' h3 => ⟨h3.2.1, ih (listed.setIfInBounds j true) a' w' h3.2.1 hfree' (ready_mono hr (Ne.symm hji)) h3.1 ?_⟩) h2
      rw [Array.setIfInBounds_comm _ _ hji]
      exact h3.2.2
end

/-- A schedule: 'q i s': operation i only looks: it may be taken first; 'n i s t': operation i may come next (then s), or one of t's; 'stop': no other. -/
inductive Sched where
  | fin
  | q (i : Nat) (s : Sched)
  | n (i : Nat) (s t : Sched)
  | stop

def Sched.isAlt : Sched → Bool
  | .n .. => true
  | .stop => true
  | _ => false
def Sched.isStop : Sched → Bool
  | .stop => true
  | _ => false
def schedOk (ops : Array Oper) : Sched → Nat → Array Bool → List Nat → Bool
  | .fin, _, _, rem => rem.isEmpty
  | .q i s, fuel + 1, listed, rem => rem.contains i && Region.free .any ops listed i && !s.isStop && schedOk ops s fuel (listed.setIfInBounds i true) (Region.ready .any ops (listed.setIfInBounds i true))
  | .n i s t, fuel + 1, listed, rem => rem.contains i && !s.isStop && t.isAlt && schedOk ops s fuel (listed.setIfInBounds i true) (Region.ready .any ops (listed.setIfInBounds i true)) && schedOk ops t (fuel + 1) listed (rem.filter (fun j => !Nat.beq j i))
  | .stop, _, _, rem => rem.isEmpty
  | _, _, _, _ => false
def schedOK (ops : Array Oper) (s : Sched) : Bool :=
  Region.noSelect ops && !s.isStop && schedOk ops s ops.size (Array.replicate ops.size false) (Region.ready .any ops (Array.replicate ops.size false))

noncomputable def qOp (P : Program) (L : Lay) (C : World → Prop) (T : Nat) (op : Op) (f : Fr) (K : Value → Prop) : Prop :=
  match op with
  | .load t x => match L.ty t, ev f x with
    | .none, _ => False
    | .array _ _ _ z, .pointer (some a) => ∃ cs : List Value, cs.length = z.length ∧ (∀ w, C w → cellsAt w a cs 0) ∧ K (.agg cs.toArray)
    | .struct _ z, .pointer (some a) => ∃ cs : List Value, cs.length = z.length ∧ (∀ w, C w → cellsAt w a cs 0) ∧ K (.agg cs.toArray)
    | _, .pointer (some a) => ∃ v, (∀ w, C w → w.cell? a = some v) ∧ K v
    | _, _ => False
  | op => pOp P L T op f K

/-- An operation with its guard. -/
noncomputable def gOp (ops0 : List Oper) (o : Oper) (f : Fr) (yes : Nat → Op → Fr → Option Nat → Prop) (no : Fr → Prop) : Prop :=
  match o with
  | ⟨dst, op, T, _, _, none⟩ => yes T op f dst
  | ⟨dst, op, T, _, _, some (j, want)⟩ => match guardOf ops0 f j with
    | some (t, b) => Bool.rec (motive := fun _ => Prop)
        (cond want (updK (upd f t (.bool false)) dst undef no) (yes T op (upd f t (.bool false)) dst))
        (cond want (yes T op (upd f t (.bool true)) dst) (updK (upd f t (.bool true)) dst undef no)) b
    | none => updK f dst undef no

noncomputable def dV (P : Program) (L : Lay) (ops0 : List Oper) (C : World → Prop) (s : Sched) : Fr → World → (Fr → World → Prop) → Prop :=
  Sched.rec (motive := fun _ => Fr → World → (Fr → World → Prop) → Prop)
    (fun f w K => K f w)
    (fun i _ ih f w K => match ops0[i]? with
      | some o => gOp ops0 o f (fun T op f dst => qOp P L C T op f fun v => updK f dst v fun f' => ih f' w K) (fun f' => ih f' w K)
      | none => False)
    (fun i _ _ ihs iht f w K => (match ops0[i]? with
      | some o => gOp ops0 o f (fun T op f dst => vOp P L T op f w fun v w' => C w' ∧ updK f dst v fun f' => ihs f' w' K) (fun f' => ihs f' w K)
      | none => False) ∧ iht f w K)
    (fun _ _ _ => True) s

section
variable {P : Program} {L : Lay} {C : World → Prop}

theorem qOp_sound (hL : L.Ok P) (T : Nat) (op : Op) (f : Fr) (K : Value → Prop) (h : qOp P L C T op f K)
    (dst : Option Nat) (pos : String) (after : Array Edge) (g : Option (Nat × Bool)) : ∃ v, (∀ w, C w → (execOp (ev f) ⟨dst, op, T, pos, after, g⟩).run P w = .ok (.value v) w) ∧ K v := by
  have pure_ : pOp P L T op f K → ∃ v, (∀ w, C w → (execOp (ev f) ⟨dst, op, T, pos, after, g⟩).run P w = .ok (.value v) w) ∧ K v := by
    intro hp
    obtain ⟨v, h1, h2⟩ := pOp_sound hL T op f _ hp dst pos after g
    exact ⟨v, fun w _ => h1 w, h2⟩
  cases op
  case load t x =>
    have ht := hL.ty t
    simp only [qOp] at h
    simp only [execOp]
    generalize hd : L.ty t = d at h ht
    have key : ∀ (a : Addr) (v : Value), ev f x = .pointer (some a) → (∀ w, C w → (loadVar t a).run P w = .ok v w) → K v →
        ∃ v, (∀ w, C w → ((do pure (.value (← Instr.loadAt t (ev f x))) : Sem Next)).run P w = .ok (.value v) w) ∧ K v := by
      intro a v e hr hk
      exact ⟨v, fun w hw => by simp [Instr.loadAt, e, Instr.sureAddr, hr w hw], hk⟩
    generalize hx : ev f x = vx at h key
    cases vx with
    | pointer p =>
      cases p with
      | none => cases d <;> exact h.elim
      | some a =>
        cases d with
        | none => exact h.elim
        | array n e esz z =>
          obtain ⟨cs, h1, h2, h3⟩ := h
          exact key a _ rfl (fun w hw => run_loadAgg ht.1 rfl (szN_of ht.2.1) h1 (h2 w hw)) h3
        | struct fs z =>
          obtain ⟨cs, h1, h2, h3⟩ := h
          obtain ⟨⟨F, hu, _⟩, hz⟩ := ht
          exact key a _ rfl (fun w hw => run_loadAgg hu rfl (szN_of hz) h1 (h2 w hw)) h3
        | int k => obtain ⟨v, h1, h2⟩ := h; exact key a _ rfl (fun w hw => run_loadOne ht.1 rfl (h1 w hw)) h2
        | str => obtain ⟨v, h1, h2⟩ := h; exact key a _ rfl (fun w hw => run_loadOne ht.1 rfl (h1 w hw)) h2
        | bool => obtain ⟨v, h1, h2⟩ := h; exact key a _ rfl (fun w hw => run_loadOne ht.1 rfl (h1 w hw)) h2
        | slice e s => obtain ⟨v, h1, h2⟩ := h; exact key a _ rfl (fun w hw => run_loadOne ht.1 rfl (h1 w hw)) h2
        | one z => obtain ⟨v, h1, h2⟩ := h; obtain ⟨⟨u, hu, hg⟩, _⟩ := ht; exact key a _ rfl (fun w hw => run_loadOne hu hg (h1 w hw)) h2
    | _ => cases d <;> exact h.elim
  all_goals exact pure_ h

/-- What 'gOp' says of the operation. -/
theorem gOp_cases {n : Nat} {a : Act} {f : Fr} (hA : Agree n a f) {ops0 : List Oper} {o : Oper} {yes : Nat → Op → Fr → Option Nat → Prop} {no : Fr → Prop} (h : gOp ops0 o f yes no) :
    (Region.wanted o (yielded ops0.toArray a.tmps) = true ∧ yes o.type o.op f o.dst) ∨ (Region.wanted o (yielded ops0.toArray a.tmps) = false ∧ no (updO f o.dst undef)) := by
  obtain ⟨dst, op, T, pos, after, guard⟩ := o
  cases guard with
  | none => exact .inl ⟨rfl, h⟩
  | some g =>
    obtain ⟨j, want⟩ := g
    have h' : (match guardOf ops0 f j with
        | some (t, b) => Bool.rec (motive := fun _ => Prop)
            (cond want (updK (upd f t (.bool false)) dst undef no) (yes T op (upd f t (.bool false)) dst))
            (cond want (yes T op (upd f t (.bool true)) dst) (updK (upd f t (.bool true)) dst undef no)) b
        | none => updK f dst undef no) := h
    cases hg : guardOf ops0 f j with
    | none => rw [hg] at h'; simp only [updK_eq] at h'; exact .inr ⟨guard_none hA hg, h'⟩
    | some tb =>
      obtain ⟨t, b⟩ := tb
      rw [hg] at h'
      simp only at h'
      obtain ⟨hu, hw⟩ := guard_spec hA hg (dst := dst) (op := op) (T := T) (pos := pos) (after := after) (want := want)
      cases b <;> cases want <;> simp only [cond_true, cond_false, hu, updK_eq] at h'
      · exact .inl ⟨hw, h'⟩
      · exact .inr ⟨hw, h'⟩
      · exact .inr ⟨hw, h'⟩
      · exact .inl ⟨hw, h'⟩

theorem dst_ok {n : Nat} (l : List Oper) : dstsOk n l = true → ∀ (i : Nat) (o : Oper), l[i]? = some o → (match o.dst with | some t => Nat.blt t n | none => true) = true := by
  induction l with
  | nil => intro _ i o h; simp at h
  | cons x r ih =>
    intro h i o hi
    simp only [dstsOk, Bool.and_eq_true] at h
    cases i with
    | zero =>
      simp only [List.getElem?_cons_zero, Option.some.injEq] at hi
      rw [← hi]
      exact h.1
    | succ i => exact ih h.2 i o (by simpa using hi)

/-- What a drawn region is shown to do. -/
def DPost (n : Nat) (K : Fr → World → Prop) (e : Exit) (a : Act) (w : World) : Prop := e = .normal ∧ ∃ f', Agree n a f' ∧ K f' w

theorem dV_sound (hL : L.Ok P) (n : Nat) (ops0 : List Oper) (hd : dstsOk n ops0 = true) (hs : Region.noSelect ops0.toArray = true) (K : Fr → World → Prop) :
    ∀ (s : Sched) (fuel : Nat) (listed : Array Bool) (rem : List Nat) (a : Act) (f : Fr) (w : World), C w → Agree n a f → schedOk ops0.toArray s fuel listed rem = true → dV P L ops0 C s f w K →
      (s.isStop = false → rem = Region.ready .any ops0.toArray listed → wpAnyC P ops0.toArray C (DPost n K) fuel listed a w) ∧
      (s.isAlt = true → ∀ i ∈ rem, ∃ fuel', fuel = fuel' + 1 ∧ wpOp P ops0.toArray (DPost n K) i (fun a' w' => C w' ∧ wpAnyC P ops0.toArray C (DPost n K) fuel' (listed.setIfInBounds i true) a' w') a w) := by
  have hQ : ∀ (d : Option Nat) (v : Value) (c : List PanicEntry) (a : Act) (w : World), DPost n K (.panic c) (a.put d v) w → DPost n K (.panic c) a w := fun d v c a w h => by cases h.1
  intro s
  induction s with
  | fin =>
    intro fuel listed rem a f w hC hA hk h
    refine ⟨fun _ hr => ?_, fun h => by cases h⟩
    have hrem : rem = [] := by simpa [schedOk] using hk
    rw [hrem] at hr
    cases fuel with
    | zero => exact ⟨hr.symm, rfl, f, hA, h⟩
    | succ fuel => exact ⟨fun _ => ⟨rfl, f, hA, h⟩, fun i hi => by rw [← hr] at hi; cases hi⟩
  | stop =>
    intro fuel listed rem a f w hC hA hk h
    have hrem : rem = [] := by simpa [schedOk] using hk
    exact ⟨fun h => (by cases h), fun _ i hi => (by rw [hrem] at hi; cases hi)⟩
  | q i s ih =>
    intro fuel listed rem a f w hC hA hk h
    refine ⟨fun _ hr => ?_, fun h => by cases h⟩
    cases fuel with
    | zero => cases hk
    | succ fuel =>
      simp only [schedOk, Bool.and_eq_true, Bool.not_eq_true'] at hk
      obtain ⟨⟨⟨k1, k2⟩, k3⟩, k4⟩ := hk
      have h' : (match ops0[i]? with
        | some o => gOp ops0 o f (fun T op f dst => qOp P L C T op f fun v => updK f dst v fun f' => dV P L ops0 C s f' w K) (fun f' => dV P L ops0 C s f' w K)
        | none => False) := h
      cases ho : ops0[i]? with
      | none => rw [ho] at h'; exact h'.elim
      | some o =>
        rw [ho] at h'
        simp only at h'
        have hoa : ops0.toArray[i]? = some o := by simpa using ho
        have hin : i ∈ Region.ready .any ops0.toArray listed := by rw [← hr]; simpa using k1
        have hdo := dst_ok ops0 hd i o ho
        rcases gOp_cases hA h' with ⟨hw, hy⟩ | ⟨hw, hy⟩
        · obtain ⟨v, h1, h2⟩ := qOp_sound hL o.type o.op f _ hy o.dst o.pos o.after o.guard
          rw [updK_eq] at h2
          have hy' : YieldsC P ops0.toArray C o v a := .inl ⟨hw, fun w hw => by rw [hA.eval]; exact h1 w hw⟩
          exact first_C hoa (Region.noSelect_spec hs) (hQ _ _) fuel listed a w hC (fun j oj h3 h4 h5 h6 => Region.free_spec hoa k2 j oj h3 h4 h5 h6) hin hy'
            ((ih fuel _ _ _ _ w hC (hA.putO hdo v) k4 h2).1 k3 rfl)
        · have hy' : YieldsC P ops0.toArray C o undef a := .inr ⟨hw, rfl⟩
          exact first_C hoa (Region.noSelect_spec hs) (hQ _ _) fuel listed a w hC (fun j oj h3 h4 h5 h6 => Region.free_spec hoa k2 j oj h3 h4 h5 h6) hin hy'
            ((ih fuel _ _ _ _ w hC (hA.putO hdo undef) k4 hy).1 k3 rfl)
  | n i s t ihs iht =>
    intro fuel listed rem a f w hC hA hk h
    cases fuel with
    | zero => cases hk
    | succ fuel =>
      simp only [schedOk, Bool.and_eq_true, Bool.not_eq_true'] at hk
      obtain ⟨⟨⟨⟨k1, k2⟩, k3⟩, k4⟩, k5⟩ := hk
      have h' : (match ops0[i]? with
        | some o => gOp ops0 o f (fun T op f dst => vOp P L T op f w fun v w' => C w' ∧ updK f dst v fun f' => dV P L ops0 C s f' w' K) (fun f' => dV P L ops0 C s f' w K)
        | none => False) ∧ dV P L ops0 C t f w K := h
      obtain ⟨h1, h2⟩ := h'
      have hone : wpOp P ops0.toArray (DPost n K) i (fun a' w' => C w' ∧ wpAnyC P ops0.toArray C (DPost n K) fuel (listed.setIfInBounds i true) a' w') a w := by
        cases ho : ops0[i]? with
        | none => rw [ho] at h1; exact h1.elim
        | some o =>
          rw [ho] at h1
          simp only at h1
          have hoa : ops0.toArray[i]? = some o := by simpa using ho
          have hdo := dst_ok ops0 hd i o ho
          unfold Go.wpOp
          simp only [hoa]
          rcases gOp_cases hA h1 with ⟨hw, hy⟩ | ⟨hw, hy⟩
          · rw [if_pos hw]
            left
            unfold Oper.wp
            rw [hA.eval]
            have hg := vOp_sound hL o.type o.op f w _ hy o.dst o.pos o.after o.guard
            refine hg.upon _ _ _ _ fun v w' hk => ⟨hk.1, ?_⟩
            have hk2 := hk.2
            rw [updK_eq] at hk2
            exact (ihs fuel _ _ _ _ w' hk.1 (hA.putO hdo v) k4 hk2).1 k2 rfl
          · rw [if_neg (by rw [hw]; simp)]
            exact ⟨hC, (ihs fuel _ _ _ _ w hC (hA.putO hdo undef) k4 hy).1 k2 rfl⟩
      have hall : ∀ j ∈ rem, wpOp P ops0.toArray (DPost n K) j (fun a' w' => C w' ∧ wpAnyC P ops0.toArray C (DPost n K) fuel (listed.setIfInBounds j true) a' w') a w := by
        intro j hj
        by_cases e : j = i
        · subst e; exact hone
        · obtain ⟨fuel', e1, h3⟩ := (iht (fuel + 1) listed _ a f w hC hA k5 h2).2 k3 j (by
            rw [List.mem_filter]
            refine ⟨hj, ?_⟩
            cases hb : Nat.beq j i with
            | false => rfl
            | true => exact absurd (Nat.eq_of_beq_eq_true hb) e)
          obtain rfl : fuel = fuel' := by omega
          exact h3
      refine ⟨fun _ hr => ⟨fun h0 => ?_, fun j hj => hall j (by rw [hr]; exact hj)⟩, fun _ j hj => ⟨fuel, rfl, hall j hj⟩⟩
      rw [hr, h0] at k1
      cases k1

/-- **A region that draws its order**: by a schedule, at a class of worlds that every operation keeps. -/
theorem drawn (hL : L.Ok P) (hm : P.follows .mixedOrders = true) {id : Nat} {ops : List Oper} {f : Fr} {w : World} {K : Fr → World → Prop} (s : Sched) (C : World → Prop)
    (hs : schedOK ops.toArray s = true) (hC : C w.drew) (h : dV P L ops C s f w.drew K) : Drawn P id ops.toArray f w K := by
  constructor
  intro n0 a hd hA
  have hd : dstsOk n0 ops = true := by simpa using hd
  simp only [schedOK, Bool.and_eq_true, Bool.not_eq_true'] at hs
  obtain ⟨⟨h1, h2⟩, h3⟩ := hs
  refine wp_region_any hm (wpAny_of_C (C := C) _ _ _ _ ?_)
  exact (dV_sound hL n0 ops hd h1 K s _ _ _ a f _ hC hA h3 h).1 h2 rfl
end
end Go.Vc
