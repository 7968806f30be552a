/- Soundness of the verification condition function against the library's wp. -/
import Derived.Test.YtcmdmcekbmodaaaVc
import Derived.Laws.Cells
import Derived.Deep.LoopGhost
namespace Go.Vc
open Go

def szV (P : Program) (t n : Nat) (v : Value) : Prop := (P.info? t).map (fun i => (i.size, i.zero)) = some (n, some v)
def szN (P : Program) (t n : Nat) : Prop := (P.info? t).map (fun i => i.size) = some n
def descAgg : TypeDesc → Bool
  | .struct _ => true
  | .array .. => true
  | _ => false
def fsOk (P : Program) (F : Array Field) (fs : List (Nat × Nat × Bool)) : Prop :=
  F.toList.map (fun fl => (fl.offset, (P.info? fl.type).map (fun i => i.size), (P.underlying fl.type).map descAgg)) = fs.map fun x => (x.1, some x.2.1, some x.2.2)
theorem szV_ {P : Program} {t n : Nat} {v : Value} (h : (P.info? t).map (fun i => (i.size, i.zero)) = some (n, some v)) : szV P t n v := h
theorem szN_ {P : Program} {t n : Nat} (h : (P.info? t).map (fun i => i.size) = some n) : szN P t n := h
theorem fs_ {P : Program} {F : Array Field} {fs : List (Nat × Nat × Bool)}
    (h : F.toList.map (fun fl => (fl.offset, (P.info? fl.type).map (fun i => i.size), (P.underlying fl.type).map descAgg)) = fs.map fun x => (x.1, some x.2.1, some x.2.2)) : fsOk P F fs := h
def TyOk (P : Program) (t : Nat) : TD → Prop
  | .none => True
  | .int k => P.underlying t = some (.int k) ∧ szV P t 1 (.int k 0)
  | .str => P.underlying t = some .string ∧ szV P t 1 (.string ByteArray.empty)
  | .bool => P.underlying t = some .bool ∧ szV P t 1 (.bool false)
  | .slice e esz => P.underlying t = some (.slice e) ∧ szV P t 1 (.slice none 0 0) ∧ szN P e esz
  | .array n e esz z => P.underlying t = some (.array n e) ∧ szV P t z.length (.agg z.toArray) ∧ szN P e esz
  | .struct fs z => (∃ F, P.underlying t = some (.struct F) ∧ fsOk P F fs) ∧ szV P t z.length (.agg z.toArray)
  | .one z => (∃ d, P.underlying t = some d ∧ descAgg d = false) ∧ szV P t 1 z ∧ z.cells = #[z]
def TysOk (P : Program) : List (Nat × TD) → Prop
  | [] => True
  | (t, d) :: r => TyOk P t d ∧ TysOk P r
def fnOk (P : Program) (n : Nat) : Prop := ∀ (args : Array Value) (w : World), (callFunc n args).run P w = .ok (.enter n args) w
def FnsOk (P : Program) : List Nat → Prop
  | [] => True
  | n :: r => fnOk P n ∧ FnsOk P r
structure Lay.Ok (P : Program) (L : Lay) : Prop where
  ty : ∀ t, TyOk P t (L.ty t)
  fns : ∀ n, L.fns n = true → fnOk P n
theorem lay_ok {P : Program} {tys : List (Nat × TD)} {fl : List Nat} (h : TysOk P tys) (g : FnsOk P fl) : Lay.Ok P ⟨layOf tys, elemB fl⟩ := by
  constructor
  · intro t
    show TyOk P t (layOf tys t)
    induction tys with
    | nil => trivial
    | cons x r ih =>
      obtain ⟨s, d⟩ := x
      simp only [layOf]
      cases hb : Nat.beq t s
      · exact ih h.2
      · have := Nat.eq_of_beq_eq_true hb
        subst this
        exact h.1
  · intro n
    show elemB fl n = true → _
    induction fl with
    | nil => intro h; cases h
    | cons x r ih =>
      simp only [elemB]
      cases hb : Nat.beq n x
      · exact ih g.2
      · have := Nat.eq_of_beq_eq_true hb
        subst this
        exact fun _ => g.1

section
variable {P : Program} {L : Lay}

theorem szN_of {t n : Nat} {v : Value} (h : szV P t n v) : szN P t n := by
  unfold szV at h
  unfold szN
  cases hi : P.info? t with
  | none => rw [hi] at h; cases h
  | some i => rw [hi] at h; simp at h; simp [h.1]
theorem run_size {t n : Nat} (h : szN P t n) (w : World) : (sizeOf t).run P w = .ok n w := by
  unfold szN at h
  cases hi : P.info? t with
  | none => rw [hi] at h; cases h
  | some i => rw [hi] at h; simp at h; simp [sizeOf, typeInfo, hi, h]
theorem run_zero {t n : Nat} {v : Value} (h : szV P t n v) (w : World) : (zeroValue t).run P w = .ok v w := by
  unfold szV at h
  cases hi : P.info? t with
  | none => rw [hi] at h; cases h
  | some i => rw [hi] at h; simp at h; simp [zeroValue, typeInfo, hi, h.2]
theorem run_agg {t : Nat} {d : TypeDesc} (h : P.underlying t = some d) (w : World) : (isAgg t).run P w = .ok (descAgg d) w := by
  simp only [isAgg, Sem.run_bind, run_underlying h, Result.andThen_ok]
  cases d <;> rfl

/-- What a result of an operation gives. -/
def Goes (P : Program) (K : Value → World → Prop) : Result Next → Prop
  | .ok (.value v) w => K v w
  | .ok .skip w => K undef w
  | .ok (.enter f args) w => Calls P f args w (fun e w' => ∃ v, e = .returned v ∧ K v w')
  | _ => False
theorem Goes.upon {K : Value → World → Prop} {r : Result Next} (h : Goes P K r) (o : Oper) (a : Act) (next : Act → World → Prop) (Q : Exit → Act → World → Prop)
    (hn : ∀ v w, K v w → next (a.put o.dst v) w) : o.upon P a next Q r := by
  cases r with
  | halt x w => exact h.elim
  | ok n w =>
    cases n <;> first
      | exact hn _ _ h
      | exact h.elim
      | exact Calls.mono h (fun e w' ⟨v, he, hk⟩ => by subst he; exact hn _ _ hk)

theorem force_eq (v : Value) (K : Value → Prop) : force v K = K v := by cases v <;> rfl
theorem vMap_eq (f : Fr) : ∀ (l : List Operand) (K : List Value → Prop), vMap f l K = K (l.map (ev f))
  | [], _ => rfl
  | x :: r, K => by simp only [vMap, force_eq, vMap_eq f r, List.map_cons]
theorem pMap_eq (f : Fr) : ∀ (l : List (Nat × Operand)) (K : List (Nat × Value) → Prop), pMap f l K = K (l.map fun p => (p.1, ev f p.2))
  | [], _ => rfl
  | (i, x) :: r, K => by simp only [pMap, force_eq, pMap_eq f r, List.map_cons]
theorem intSame_eq {k k' : IntKind} (h : intSame k k' = true) : k = k' := by cases k <;> cases k' <;> first | rfl | cases h
theorem cellsK_eq (v : Value) (K : List Value → Prop) : cellsK v K = K v.cells.toList := by cases v <;> rfl
theorem vPtr_eq (a : Addr) (n : Nat) (K : Value → Prop) : vPtr a n K = K (.pointer (some (a.add n))) := by
  obtain ⟨b, o, s⟩ := a
  cases n with
  | zero => simp [vPtr, Addr.add]
  | succ n => simp [vPtr, Addr.add]

theorem ba_toList (s : ByteArray) : s.toList = s.data.toList := ByteArray.toList_eq s

theorem run_binInt (op : BinOp) (T : Nat) (k : IntKind) (a b : Int) (K : Value → Prop) (h : vInt P op T k a b K) : ∃ v, (∀ w, (binOp op T (.int k a) (.int k b)).run P w = .ok v w) ∧ K v := by
  cases op
  case quo => exact ⟨_, fun w => by simp only [binOp_quo, Op.intDiv, if_neg h.1]; rfl, h.2⟩
  case rem => exact ⟨_, fun w => by simp only [binOp_rem, Op.intDiv, if_neg h.1]; rfl, h.2⟩
  case shl => exact h
  case shr => exact h
  case andNot => exact h
  case add => exact ⟨_, fun w => by rw [binOp_add]; rfl, h⟩
  case sub => exact ⟨_, fun w => by rw [binOp_sub]; rfl, h⟩
  case mul => exact ⟨_, fun w => by rw [binOp_mul]; rfl, h⟩
  case eql => exact ⟨_, fun w => by rw [binOp_eql]; rfl, h⟩
  case neq => exact ⟨_, fun w => by rw [binOp_neq]; rfl, h⟩
  case lss => exact ⟨_, fun w => by rw [binOp_lss]; rfl, h⟩
  case leq => exact ⟨_, fun w => by rw [binOp_leq]; rfl, h⟩
  case gtr => exact ⟨_, fun w => by rw [binOp_gtr]; rfl, h⟩
  case geq => exact ⟨_, fun w => by rw [binOp_geq]; rfl, h⟩
  case and => exact ⟨_, fun w => by rw [binOp_and, intBits_and]; rfl, h⟩
  case or => exact ⟨_, fun w => by rw [binOp_or, intBits_or]; rfl, h⟩
  case xor => exact ⟨_, fun w => by rw [binOp_xor, intBits_xor]; rfl, h⟩

theorem binOp_str (op : BinOp) (T : Nat) (a b : ByteArray) : binOp op T (.string a) (.string b) = Op.stringOp op a b := by cases op <;> rfl
theorem run_binStr (op : BinOp) (T : Nat) (a b : ByteArray) (K : Value → Prop) (h : vStr P op T a b K) : ∃ v, (∀ w, (binOp op T (.string a) (.string b)).run P w = .ok v w) ∧ K v := by
  cases op
  case add => exact ⟨_, fun w => by rw [binOp_str]; simp only [Op.stringOp]; rw [if_neg (by have := h.1; simp only [IntKind.max_i64]; omega)]; rfl, h.2⟩
  case eql => exact ⟨_, fun w => by rw [binOp_str]; simp only [Op.stringOp, ba_toList]; rfl, h⟩
  case neq => exact ⟨_, fun w => by rw [binOp_str]; simp only [Op.stringOp, ba_toList]; rfl, h⟩
  case lss => exact ⟨_, fun w => by rw [binOp_str]; simp only [Op.stringOp, ba_toList]; rfl, h⟩
  case leq => exact ⟨_, fun w => by rw [binOp_str]; simp only [Op.stringOp, ba_toList]; rfl, h⟩
  case gtr => exact ⟨_, fun w => by rw [binOp_str]; simp only [Op.stringOp, ba_toList]; rfl, h⟩
  case geq => exact ⟨_, fun w => by rw [binOp_str]; simp only [Op.stringOp, ba_toList]; rfl, h⟩
  all_goals exact h

theorem run_binShift (op : BinOp) (T : Nat) (k yk : IntKind) (a b : Int) (K : Value → Prop) (h : vShift P op T k yk a b K) : ∃ v, (∀ w, (binOp op T (.int k a) (.int yk b)).run P w = .ok v w) ∧ K v := by
  cases op
  case shl => exact ⟨_, fun w => by simp only [binOp_shl, shift_shl k yk a b h.1.1 h.1.2]; rfl, h.2⟩
  case shr => exact ⟨_, fun w => by simp only [binOp_shr, shift_shr k yk a b h.1.1 h.1.2]; rfl, h.2⟩
  all_goals exact h

theorem vBin_sound (B : Bool) (op : BinOp) (T : Nat) (ox oy : Operand) (x y : Value) (K : Value → Prop) (hT : B = true → P.underlying T = some .bool) (h : vBin P B op T ox oy x y K) :
    ∃ v, (∀ w, (do eqGuard op T ox oy x y; binOp op T x y : Sem Value).run P w = .ok v w) ∧ K v := by
  unfold vBin at h
  split at h
  · rename_i k a k' b
    have hg : ∀ w, (eqGuard op T ox oy (.int k a) (.int k' b)).run P w = .ok () w := fun w => by rw [eqGuard_at_int]; rfl
    cases hs : isShift op
    · rw [hs] at h
      simp only [cond_false] at h
      cases hk : intSame k k'
      · rw [hk] at h; exact h.elim
      · rw [hk] at h
        have := intSame_eq hk
        subst this
        obtain ⟨v, h1, h2⟩ := run_binInt op T k a b K h
        exact ⟨v, fun w => by rw [Sem.run_bind, hg, Result.andThen_ok, h1], h2⟩
    · rw [hs] at h
      obtain ⟨v, h1, h2⟩ := run_binShift op T k k' a b K h
      exact ⟨v, fun w => by rw [Sem.run_bind, hg, Result.andThen_ok, h1], h2⟩
  · rename_i a b
    obtain ⟨v, h1, h2⟩ := run_binStr op T a b K h
    exact ⟨v, fun w => by rw [eqGuard_at_string, Sem.run_bind, Sem.run_pure, Result.andThen_ok, h1], h2⟩
  · rename_i a b
    cases B
    · exact h.elim
    · have ht := hT rfl
      simp only [cond_true] at h
      split at h
      · exact ⟨_, fun w => by rw [eqGuard_at_bool, Sem.run_bind, Sem.run_pure, Result.andThen_ok, run_eql_bool w T a b ht], h⟩
      · exact ⟨_, fun w => by rw [eqGuard_at_bool, Sem.run_bind, Sem.run_pure, Result.andThen_ok, run_neq_bool w T a b ht], h⟩
      · exact h.elim
  · exact h

theorem vUn_sound (op : UnOp) (x : Value) (K : Value → Prop) (h : vUn P op x K) : ∃ v, (∀ w, (Op.unary op x).run P w = .ok v w) ∧ K v := by
  unfold vUn at h
  split at h
  · exact ⟨_, fun w => rfl, h⟩
  · exact ⟨_, fun w => by simp [Op.unary, Op.intArith], h⟩
  · exact h

theorem cellsAt_get {w : World} {a : Addr} : ∀ (cs : List Value) (i : Nat), cellsAt w a cs i → ∀ j v, cs[j]? = some v → w.cell? (a.add (i + j)) = some v
  | [], _, _, j, v, h => by simp at h
  | c :: r, i, ⟨h1, h2⟩, j, v, h => by
    cases j with
    | zero => simp at h; subst h; simpa using h1
    | succ j =>
      have := cellsAt_get r (i + 1) h2 j v (by simpa using h)
      rwa [show i + 1 + j = i + (j + 1) from by omega] at this
theorem run_loadAgg {t n : Nat} {d : TypeDesc} (hu : P.underlying t = some d) (hd : descAgg d = true) (hs : szN P t n) {w : World} {a : Addr} {cs : List Value} (hl : cs.length = n) (h : cellsAt w a cs 0) :
    (loadVar t a).run P w = .ok (.agg cs.toArray) w := by
  simp only [loadVar, Sem.run_bind, run_agg hu, Result.andThen_ok, hd, if_true, run_size hs]
  subst hl
  have := run_loadCells_list (P := P) w a cs (fun j v hj => by have := cellsAt_get cs 0 h j v hj; simpa using this)
  simp [this]
theorem run_loadOne {t : Nat} {d : TypeDesc} (hu : P.underlying t = some d) (hd : descAgg d = false) {w : World} {a : Addr} {v : Value} (h : w.cell? a = some v) :
    (loadVar t a).run P w = .ok v w := by
  simp only [loadVar, Sem.run_bind, run_agg hu, Result.andThen_ok, hd]
  simp [h]

theorem add_ne {a : Addr} {i j : Nat} (h : i ≠ j) (hs : a.spot = none) : a.add i ≠ a.add j := by
  obtain ⟨b, o, s⟩ := a
  simp only at hs
  subst hs
  intro e
  unfold Addr.add at e
  split at e <;> split at e <;> simp at e <;> omega
theorem frozen?_setCell (w : World) (a b : Addr) (v : Value) : (w.setCell a v).frozen? b = w.frozen? b := by
  simp only [World.frozen?, World.setCell, Array.getElem?_modify]
  by_cases h : a.block = b.block
  · rw [if_pos h]
    cases hb : w.heap[b.block]? with
    | none => rfl
    | some o => cases o <;> rfl
  · rw [if_neg h]
theorem mayStore_set {a p : Addr} {u : Value} : ∀ (cs : List Value) (w : World) (i : Nat), mayStore w a cs i → mayStore (w.setCell p u) a cs i
  | [], _, _, _ => trivial
  | v :: r, w, i, ⟨⟨x, h1⟩, h2, h3, h4⟩ => by
    refine ⟨?_, by rw [frozen?_setCell]; exact h2, h3, mayStore_set r w (i + 1) h4⟩
    by_cases e : p = a.add i
    · subst e; exact ⟨u, World.cell?_setCell_same w _ _ h1⟩
    · exact ⟨x, by rw [World.cell?_setCell_other w p _ u e]; exact h1⟩
theorem run_storeCells {a : Addr} : ∀ (cs : List Value) (w : World) (i : Nat), mayStore w a cs i → (storeCells a cs i).run P w = .ok () (stored w a cs i)
  | [], w, i, _ => rfl
  | v :: r, w, i, ⟨⟨x, h1⟩, h2, h3, h4⟩ => by
    have hs : (store (a.add i) v).run P w = .ok () (w.setCell (a.add i) v) := by rw [run_store P w _ v _ h3, h1]; simp [h2]
    show (store (a.add i) v >>= fun _ => storeCells a r (i + 1)).run P w = _
    rw [Sem.run_bind, hs]
    exact run_storeCells r _ _ (mayStore_set r w (i + 1) h4)

theorem fsOk_get {F : Array Field} {fs : List (Nat × Nat × Bool)} (h : fsOk P F fs) {i off size : Nat} {g : Bool} (hi : fs[i]? = some (off, size, g)) :
    ∃ fl, F[i]? = some fl ∧ fl.offset = off ∧ szN P fl.type size ∧ ∃ d, P.underlying fl.type = some d ∧ descAgg d = g := by
  have h1 := congrArg (fun l => l[i]?) h
  simp only [List.getElem?_map, hi, Option.map_some] at h1
  cases hf : F.toList[i]? with
  | none => rw [hf] at h1; cases h1
  | some fl =>
    rw [hf] at h1
    simp only [Option.map_some, Option.some.injEq, Prod.mk.injEq] at h1
    obtain ⟨e1, e2, e3⟩ := h1
    refine ⟨fl, by simpa using hf, e1, e2, ?_⟩
    cases hu : P.underlying fl.type with
    | none => rw [hu] at e3; cases e3
    | some d => rw [hu] at e3; exact ⟨d, rfl, by simpa using e3⟩

theorem Pure.goes {s : Sem Value} {w : World} {K : Value → World → Prop} (h : Pure P s (fun v => K v w)) : Goes P K ((do pure (.value (← s)) : Sem Next).run P w) := by
  obtain ⟨v, h1, h2⟩ := h
  simp only [Sem.run_bind, h1, Result.andThen_ok, Sem.run_pure]
  exact h2
theorem Runs.goes {s : Sem Value} {w : World} {K : Value → World → Prop} (h : Runs P s w K) : Goes P K ((do pure (.value (← s)) : Sem Next).run P w) := by
  obtain ⟨v, w', h1, h2⟩ := h
  simp only [Sem.run_bind, h1, Result.andThen_ok, Sem.run_pure]
  exact h2
theorem goes_val {s : Sem Value} {w w' : World} {v : Value} {K : Value → World → Prop} (h : s.run P w = .ok v w') (k : K v w') : Goes P K ((do pure (.value (← s)) : Sem Next).run P w) :=
  Runs.goes ⟨v, w', h, k⟩

theorem fold_put (off : Nat) : ∀ (l : List Value) (k : Nat) (cs : Array Value),
    (l.zipIdx k).foldl (fun (cs : Array Value) (x : Value × Nat) => cs.setIfInBounds (off + x.2) x.1) cs = (putAt cs.toList (off + k) l).toArray
  | [], k, cs => by simp [putAt]
  | v :: r, k, cs => by
    simp only [List.zipIdx_cons, List.foldl_cons, putAt]
    rw [fold_put off r (k + 1)]
    simp [Nat.add_assoc]
theorem fill_one (off : Nat) (v : Value) (cs : Array Value) :
    v.cells.zipIdx.foldl (fun cs (c, j) => cs.setIfInBounds (off + j) c) cs = (putAt cs.toList off v.cells.toList).toArray := by
  have h := fold_put off v.cells.toList 0 cs
  rw [Nat.add_zero] at h
  rw [← h, ← Array.foldl_toList]
  congr 1
  simp
theorem fill_F (places : Array (Nat × Nat)) (fs : List (Nat × Nat × Bool)) (hp : ∀ i : Nat, places[i]? = (fs[i]?).map fun (x : Nat × Nat × Bool) => (x.1, x.2.1)) :
    ∀ (l : List (Nat × Value)) (cs r : List Value), fillF fs cs l = some r → Instr.fill (places[·]?) cs.toArray l = some r.toArray
  | [], cs, r, h => by simp [fillF] at h; subst h; rfl
  | (i, v) :: l, cs, r, h => by
    simp only [fillF] at h
    cases hi : fs[i]? with
    | none => rw [hi] at h; cases h
    | some x =>
      obtain ⟨off, size, g⟩ := x
      rw [hi] at h
      simp only at h
      cases hb : (Nat.beq v.cells.size size && Nat.ble (off + size) cs.length) with
      | false => rw [hb] at h; cases h
      | true =>
        rw [hb] at h
        simp only [Bool.and_eq_true] at hb
        have e1 := Nat.eq_of_beq_eq_true hb.1
        have e2 := Nat.le_of_ble_eq_true hb.2
        have hpi : places[i]? = some (off, size) := by rw [hp, hi]; rfl
        simp only [Instr.fill, hpi]
        rw [if_neg (by simp; omega), fill_one]
        exact fill_F places fs hp l _ r h
theorem fill_A (esz : Nat) : ∀ (l : List (Nat × Value)) (cs r : List Value), fillA esz cs l = some r → Instr.fill (fun i => some (i * esz, esz)) cs.toArray l = some r.toArray
  | [], cs, r, h => by simp [fillA] at h; subst h; rfl
  | (i, v) :: l, cs, r, h => by
    simp only [fillA] at h
    cases hb : (Nat.beq v.cells.size esz && Nat.ble (i * esz + esz) cs.length) with
    | false => rw [hb] at h; cases h
    | true =>
      rw [hb] at h
      simp only [Bool.and_eq_true] at hb
      have e1 := Nat.eq_of_beq_eq_true hb.1
      have e2 := Nat.le_of_ble_eq_true hb.2
      simp only [Instr.fill]
      rw [if_neg (by simp; omega), fill_one]
      exact fill_A esz l _ r h
theorem zeros_len (z : List Value) : ∀ n, (zeros z n).length = n * z.length
  | 0 => by simp [zeros]
  | n + 1 => by simp [zeros, zeros_len z n, Nat.succ_mul]; omega
theorem zeros_get (z : List Value) (hz : 0 < z.length) : ∀ (n i : Nat), i < n * z.length → (zeros z n)[i]? = z[i % z.length]?
  | 0, i, h => by simp at h
  | n + 1, i, h => by
    simp only [zeros]
    rcases Nat.lt_or_ge i z.length with hi | hi
    · rw [List.getElem?_append_left hi, Nat.mod_eq_of_lt hi]
    · rw [List.getElem?_append_right hi, zeros_get z hz n (i - z.length) (by rw [Nat.succ_mul] at h; omega), Nat.mod_eq_sub_mod hi]
theorem zeros_eq (z : List Value) (hz : 0 < z.length) (n : Nat) : ((Array.range (n * z.length)).map (fun i => z.toArray[i % z.toArray.size]!)) = (zeros z n).toArray := by
  apply Array.ext
  · simp [zeros_len]
  · intro i h1 h2
    have h3 : i < n * z.length := by simpa using h1
    have h4 : i % z.length < z.length := Nat.mod_lt _ hz
    have := zeros_get z hz n i h3
    rw [List.getElem?_eq_getElem (by simpa using h2), List.getElem?_eq_getElem h4] at this
    simp only [Array.getElem_map, Array.getElem_range, List.getElem_toArray]
    rw [getElem!_pos _ _ (by simpa using h4)]
    simpa using this.symm

theorem td_zero {t : Nat} {d : TD} (h : TyOk P t d) (hd : d ≠ .none) : ∃ v, szV P t d.size v ∧ v.cells = d.zero.toArray ∧ d.zero.length = d.size := by
  cases d with
  | none => exact absurd rfl hd
  | int k => exact ⟨_, h.2, rfl, rfl⟩
  | str => exact ⟨_, h.2, rfl, rfl⟩
  | bool => exact ⟨_, h.2, rfl, rfl⟩
  | slice e esz => exact ⟨_, h.2.1, rfl, rfl⟩
  | array n e esz z => exact ⟨_, h.2.1, rfl, rfl⟩
  | struct fs z => exact ⟨_, h.2, rfl, rfl⟩
  | one z => exact ⟨_, h.2.1, h.2.2, rfl⟩
theorem td_desc {t : Nat} {d : TD} (h : TyOk P t d) (hd : d ≠ .none) : ∃ u, P.underlying t = some u ∧ descAgg u = d.isAgg := by
  cases d with
  | none => exact absurd rfl hd
  | int k => exact ⟨_, h.1, rfl⟩
  | str => exact ⟨_, h.1, rfl⟩
  | bool => exact ⟨_, h.1, rfl⟩
  | slice e esz => exact ⟨_, h.1, rfl⟩
  | array n e esz z => exact ⟨_, h.1, rfl⟩
  | struct fs z => obtain ⟨⟨F, h1, _⟩, _⟩ := h; exact ⟨_, h1, rfl⟩
  | one z => obtain ⟨⟨u, h1, h2⟩, _⟩ := h; exact ⟨u, h1, h2⟩

theorem run_bound (k : IntKind) (n : Int) (y : Nat) (code : BoundsCode) (w : World) (h0 : 0 ≤ n) (h1 : n ≤ y) : (Instr.sliceBound (.int k n) y code).run P w = .ok n.toNat w := by
  simp only [Instr.sliceBound, asIntOf, Sem.run_bind, Sem.run_pure, Result.andThen_ok]
  rw [if_pos ⟨h0, h1⟩]
  rfl
theorem optEv_some {f : Fr} {d : Nat} {x : Operand} {n : Int} (h : optEv f d (some x) = some n) : ∃ k, ev f x = .int k n := by
  simp only [optEv] at h
  split at h
  · rename_i k m he
    simp at h
    subst h
    exact ⟨k, he⟩
  · cases h
theorem run_bounds (isS : Bool) (f : Fr) (len cap : Nat) (lo hi : Option Operand) (l h : Int) (w : World) (hl : optEv f 0 lo = some l) (hh : optEv f len hi = some h) (h0 : 0 ≤ l) (h1 : l ≤ h) (h2 : h ≤ cap) :
    (Instr.sliceBounds isS len cap (lo.map (ev f)) (hi.map (ev f)) none).run P w = .ok (l.toNat, h.toNat, cap) w := by
  have hhi : ∀ c : BoundsCode, ((match hi.map (ev f) with | some v => Instr.sliceBound v cap c | none => pure len : Sem Nat)).run P w = .ok h.toNat w := by
    intro c
    cases hi with
    | none => simp only [optEv, Option.some.injEq] at hh; subst hh; simp
    | some x => obtain ⟨k, e⟩ := optEv_some hh; simp only [Option.map_some, e]; exact run_bound k h cap c w (by omega) h2
  have hlo : ((match lo.map (ev f) with | some v => Instr.sliceBound v h.toNat .sliceB | none => pure 0 : Sem Nat)).run P w = .ok l.toNat w := by
    cases lo with
    | none => simp only [optEv, Option.some.injEq] at hl; subst hl; simp
    | some x => obtain ⟨k, e⟩ := optEv_some hl; simp only [Option.map_some, e]; exact run_bound k l h.toNat .sliceB w h0 (by omega)
  have hhi' := hhi (if isS then .sliceAcap else .sliceAlen)
  simp only [Instr.sliceBounds, Sem.run_bind, Sem.run_pure, Result.andThen_ok]
  cases hi with
  | none =>
    simp only [Option.map_none] at hhi' ⊢
    simp only [Sem.run_pure, Result.ok.injEq] at hhi'
    rw [← hhi'.1] at hlo
    cases lo with
    | none => simp only [Option.map_none, Sem.run_pure, Result.ok.injEq] at hlo ⊢; simp [hlo.1, hhi'.1]
    | some x => simp only [Option.map_some, Option.isSome_none, Bool.false_eq_true, if_false, Sem.run_bind, Sem.run_pure, Result.andThen_ok] at hlo ⊢; rw [hlo]; simp [hhi'.1]
  | some y =>
    simp only [Option.map_some] at hhi' ⊢
    cases lo with
    | none => simp only [Option.map_none, Sem.run_pure, Result.ok.injEq] at hlo; simp [hhi', hlo.1]
    | some x => simp only [Option.map_some, Option.isSome_none, Bool.false_eq_true, if_false, Sem.run_bind] at hlo ⊢; rw [hhi']; simp only [Result.andThen_ok]; rw [hlo]; simp

theorem vPureB_sound (hL : L.Ok P) (b : Builtin) (ats : Array Nat) (T : Nat) (cs : Array Bool) (xs : List Value) (K : Value → Prop) (h : vPureB P L b ats T cs xs K) :
    ∃ v, (∀ w, (builtin b ats T cs xs.toArray).run P w = .ok (.value v) w) ∧ K v := by
  unfold vPureB at h
  split at h
  · rename_i t x ha
    have hats : ats = #[t] := by apply Array.toList_inj.1; simpa using ha
    subst hats
    have ht := hL.ty t
    have main : ∀ v, (∀ w, (Builtin.len_ #[t] T #[x]).run P w = .ok v w) → K v → ∃ v, (∀ w, (builtin .len #[t] T cs [x].toArray).run P w = .ok (.value v) w) ∧ K v := by
      intro v h1 h2
      refine ⟨v, fun w => ?_, h2⟩
      show ((do pure (.value (← Builtin.len_ #[t] T #[x])) : Sem Next)).run P w = _
      simp only [Sem.run_bind, h1, Result.andThen_ok, Sem.run_pure]
    generalize L.ty t = d at h ht
    cases d <;> cases x <;> first
      | exact (h : False).elim
      | (obtain ⟨v, h1, h2⟩ := h; exact main v h1 h2)
      | exact main _ (fun w => by simp [Builtin.len_, run_underlying ht.1, goInt]) h
  · rename_i k x k' y
    exact ⟨_, fun w => by show ((do pure (.value (← Builtin.min_ _ T #[.int k x, .int k' y])) : Sem Next)).run P w = _; simp only [Sem.run_bind, run_min_int2, Result.andThen_ok, Sem.run_pure], h⟩
  · rename_i k x k' y
    exact ⟨_, fun w => by show ((do pure (.value (← Builtin.max_ _ T #[.int k x, .int k' y])) : Sem Next)).run P w = _; simp only [Sem.run_bind, run_max_int2, Result.andThen_ok, Sem.run_pure], h⟩
  · exact ⟨_, fun w => rfl, h⟩
  · exact ⟨_, fun w => rfl, h⟩
  · exact ⟨_, fun w => rfl, h⟩
  · exact h

theorem vSliceA_sound {a : Option Addr} {cap esz : Nat} {l h m : Option Int} {K : Value → Prop} (hv : vSliceA a cap esz l h m K) :
    ∃ i j : Int, l = some i ∧ h = some j ∧ ∃ k, m = some k ∧ 0 ≤ i ∧ i ≤ j ∧ j ≤ k ∧ k ≤ cap ∧ K (.slice (if k = i then a else a.map (·.add (i.toNat * esz))) (j - i).toNat (k - i).toNat) := by
  unfold vSliceA at hv
  split at hv
  · exact ⟨_, _, rfl, rfl, _, rfl, hv.1.1, hv.1.2.1, hv.1.2.2.1, hv.1.2.2.2, hv.2⟩
  · exact hv.elim

theorem run_mapFields : ∀ (l : List Field) (fs : List (Nat × Nat × Bool)) (w : World),
    l.map (fun fl => (fl.offset, (P.info? fl.type).map (fun i => i.size), (P.underlying fl.type).map descAgg)) = fs.map (fun x => (x.1, some x.2.1, some x.2.2)) →
    (l.mapM (fun fl => do pure (fl.offset, ← sizeOf fl.type)) : Sem (List (Nat × Nat))).run P w = .ok (fs.map fun (x : Nat × Nat × Bool) => (x.1, x.2.1)) w
  | [], [], w, _ => rfl
  | [], _ :: _, w, h => by simp at h
  | _ :: _, [], w, h => by simp at h
  | fl :: l, x :: fs, w, h => by
    simp only [List.map_cons, List.cons.injEq, Prod.mk.injEq] at h
    obtain ⟨⟨h1, h2, _⟩, h4⟩ := h
    have hs : szN P fl.type x.2.1 := h2
    simp only [List.mapM_cons, Sem.run_bind, run_size hs, Result.andThen_ok, Sem.run_pure, run_mapFields l fs w h4, List.map_cons, h1]
theorem run_fields {F : Array Field} {fs : List (Nat × Nat × Bool)} (h : fsOk P F fs) (w : World) :
    (F.mapM (fun fl => do pure (fl.offset, ← sizeOf fl.type)) : Sem (Array (Nat × Nat))).run P w = .ok (fs.map fun (x : Nat × Nat × Bool) => (x.1, x.2.1)).toArray w := by
  have := run_mapFields F.toList fs w h
  rw [Array.mapM_eq_mapM_toList, Sem.run_map, this]
  rfl

theorem amap (g : Operand → Value) (xs : Array Operand) : xs.map g = (xs.toList.map g).toArray := by
  apply Array.toList_inj.1
  simp

theorem pure_val {s : Sem Value} {v : Value} {K : Value → Prop} (h : ∀ w, s.run P w = .ok v w) (k : K v) : ∃ v, (∀ w, ((do pure (.value (← s)) : Sem Next)).run P w = .ok (.value v) w) ∧ K v :=
  ⟨v, fun w => by simp only [Sem.run_bind, h, Result.andThen_ok, Sem.run_pure], k⟩
theorem pOp_sound (hL : L.Ok P) (T : Nat) (op : Op) (f : Fr) (K : Value → Prop) (h : pOp P L T op f K)
    (dst : Option Nat) (pos : String) (after : Array Edge) (g : Option (Nat × Bool)) : ∃ v, (∀ w, (execOp (ev f) ⟨dst, op, T, pos, after, g⟩).run P w = .ok (.value v) w) ∧ K v := by
  cases op <;> simp only [pOp, force_eq, vMap_eq, pMap_eq, vPtr_eq] at h <;> simp only [execOp]
  case move x => exact ⟨_, fun _ => rfl, h⟩
  case assign x => exact ⟨_, fun _ => rfl, h⟩
  case pick c x y =>
    split at h
    · rename_i b hb
      rw [hb]
      cases b
      · exact ⟨_, fun _ => rfl, h⟩
      · exact ⟨_, fun _ => rfl, h⟩
    · exact h.elim
  case binOp op t x y yt =>
    obtain ⟨v, h1, h2⟩ := vBin_sound (P := P) (L.ty t).isBool op t x y (ev f x) (ev f y) K (fun hb => by
      have ht := hL.ty t
      cases hd : L.ty t <;> rw [hd] at hb ht <;> first | exact ht.1 | cases hb) h
    exact pure_val h1 h2
  case unOp op t x =>
    obtain ⟨v, h1, h2⟩ := vUn_sound op (ev f x) K h
    exact pure_val h1 h2
  case fieldAddr t x i =>
    split at h
    · rename_i fs z a e1 e2
      have ht := hL.ty t
      rw [e1] at ht
      obtain ⟨⟨F, hu, hf⟩, _⟩ := ht
      split at h
      · rename_i off size g' hi
        obtain ⟨fl, h1, h2, h3, _⟩ := fsOk_get hf hi
        cases hz : Nat.beq size 0
        · rw [hz] at h
          have hne : size ≠ 0 := fun e => by subst e; cases hz
          refine pure_val (fun w => ?_) h
          simp [Instr.fieldAt, run_underlying hu, h1, e2, Instr.sureAddr, fieldPlace, run_size h3, hne, h2]
        · rw [hz] at h; exact h.elim
      · exact h.elim
    · exact h.elim
  case field t x i =>
    split at h
    · rename_i fs z cs e1 e2
      have ht := hL.ty t
      rw [e1] at ht
      obtain ⟨⟨F, hu, hf⟩, _⟩ := ht
      split at h
      · rename_i off size g' hi
        obtain ⟨fl, h1, h2, h3, d, h4, h5⟩ := fsOk_get hf hi
        subst h2
        cases g'
        · simp only [cond_false] at h
          split at h
          · rename_i v hv
            refine pure_val (fun w => ?_) h
            simp [Instr.field, run_underlying hu, h1, e2, asAgg, part, run_agg h4, h5, hv]
          · exact h.elim
        · refine pure_val (fun w => ?_) h
          simp [Instr.field, run_underlying hu, h1, e2, asAgg, part, run_agg h4, h5, run_size h3]
      · exact h.elim
    · exact h.elim
  case build t ps =>
    have ht := hL.ty t
    generalize hd : L.ty t = d at h ht
    cases d with
    | struct fs z =>
      simp only at h
      split at h
      · rename_i cs hcs
        obtain ⟨⟨F, hu, hf⟩, hz⟩ := ht
        refine pure_val (fun w => ?_) h
        have hpl := run_fields hf
        simp only [Instr.build, Sem.run_bind, run_zero hz, Result.andThen_ok, run_underlying hu, hpl]
        have := fill_F (fs.map fun (x : Nat × Nat × Bool) => (x.1, x.2.1)).toArray fs (fun i => by simp) _ _ _ hcs
        simp only [Value.cells]
        rw [Array.toList_map]
        rw [this]
        rfl
      · exact h.elim
    | array n e esz z =>
      simp only at h
      split at h
      · rename_i cs hcs
        refine pure_val (fun w => ?_) h
        have := fill_A esz _ _ _ hcs
        simp only [Instr.build, Sem.run_bind, run_zero ht.2.1, Result.andThen_ok, run_underlying ht.1, run_size ht.2.2]
        simp only [Value.cells]
        rw [Array.toList_map]
        rw [this]
        rfl
      · exact h.elim
    | _ => exact h.elim
  case index t x i =>
    have ht := hL.ty t
    generalize hd : L.ty t = d at h ht
    generalize hx : ev f x = vx at h
    generalize hi : ev f i = vi at h
    split at h
    · rename_i s k n
      obtain ⟨⟨h0, h1⟩, h2⟩ := h
      refine pure_val (fun w => ?_) h2
      have hlt : n.toNat < s.size := by omega
      have hg : s[n.toNat]? = some (s.data.toList.getD n.toNat 0) := by
        have h3 : n.toNat < s.data.toList.length := by rw [Array.length_toList]; exact hlt
        rw [List.getD_eq_getElem?_getD, List.getElem?_eq_getElem h3]
        rw [getElem?_pos s n.toNat hlt]
        rfl
      simp [Instr.index, asIntOf, run_underlying ht.1, h0, hg]
    · obtain ⟨v, h1, h2⟩ := h
      exact pure_val h1 h2
  case indexAddr t x i =>
    have ht := hL.ty t
    generalize hd : L.ty t = d at h ht
    generalize hx : ev f x = vx at h
    generalize hi : ev f i = vi at h
    split at h
    · rename_i e esz a len cap k n
      obtain ⟨⟨h0, h1⟩, h2⟩ := h
      refine pure_val (fun w => ?_) h2
      simp only [Instr.indexAt, asIntOf, Sem.run_bind, Sem.run_pure, Result.andThen_ok, run_underlying ht.1]
      rw [Sem.run_ite, if_pos ⟨h0, h1⟩]
      simp only [Sem.run_bind, Sem.run_pure, Result.andThen_ok, run_size ht.2.2]
    · rename_i len e esz z a k n
      obtain ⟨⟨h0, h1⟩, h2⟩ := h
      refine pure_val (fun w => ?_) h2
      simp only [Instr.indexAt, Instr.sureAddr, asIntOf, Sem.run_bind, Sem.run_pure, Result.andThen_ok, run_underlying ht.1]
      rw [Sem.run_ite, if_pos ⟨h0, h1⟩]
      simp only [Sem.run_bind, Sem.run_pure, Result.andThen_ok, run_size ht.2.2]
    · exact h.elim
  case slice t x lo hi mx =>
    have ht := hL.ty t
    generalize hd : L.ty t = d at h ht
    generalize hx : ev f x = vx at h
    split at h
    · rename_i s
      cases mx with
      | some _ => exact h.elim
      | none =>
        simp only at h
        unfold vSliceS at h
        split at h
        · rename_i l' h' i j e1 e2
          obtain ⟨⟨h0, h1, h2⟩, h3⟩ := h
          refine pure_val (fun w => ?_) h3
          have hb := run_bounds (P := P) false f s.size s.size lo hi i j w e1 e2 h0 h1 h2
          simp only [Instr.sliceAt, Sem.run_bind, run_underlying ht.1, Result.andThen_ok, Instr.slice, Option.map_none, Option.isSome_none, Bool.false_eq_true, if_false, Sem.run_pure, hb]
        · exact h.elim
    · rename_i e esz a len cap
      cases mx with
      | some _ => exact h.elim
      | none =>
        simp only at h
        obtain ⟨i, j, e1, e2, k, e3, h0, h1, h2, h3, h4⟩ := vSliceA_sound h
        simp only [Option.some.injEq] at e3
        subst e3
        refine pure_val (fun w => ?_) h4
        have hb := run_bounds (P := P) true f len cap lo hi i j w e1 e2 h0 h1 (by omega)
        simp only [Instr.sliceAt, Sem.run_bind, run_underlying ht.1, Result.andThen_ok, Instr.slice, Option.map_none, hb, Sem.run_pure, run_size ht.2.2]
        congr 2
        · by_cases e : (cap : Int) = i
          · rw [if_pos e, if_pos (by omega)]
          · rw [if_neg e, if_neg (by omega)]
        · omega
        · omega
    · rename_i n e esz z a
      cases mx with
      | some _ => exact h.elim
      | none =>
        simp only at h
        obtain ⟨i, j, e1, e2, k, e3, h0, h1, h2, h3, h4⟩ := vSliceA_sound h
        simp only [Option.some.injEq] at e3
        subst e3
        refine pure_val (fun w => ?_) h4
        have hb := run_bounds (P := P) false f n n lo hi i j w e1 e2 h0 h1 (by omega)
        simp only [Instr.sliceAt, Instr.sureAddr, Sem.run_bind, run_underlying ht.1, Result.andThen_ok, Option.map_none, hb, Sem.run_pure, run_size ht.2.2]
        congr 2
        · by_cases e : (n : Int) = i
          · rw [if_pos e, if_pos (by omega)]
          · rw [if_neg e, if_neg (by omega)]; rfl
        · omega
        · omega
    · exact h.elim
  case extract x i =>
    split at h
    · rename_i vs e
      split at h
      · rename_i v hv
        refine pure_val (fun w => ?_) h
        have : vs[i]? = some v := by simpa using hv
        simp [Instr.extract, e, this]
      · exact h.elim
    · exact h.elim
  case makeFunc fn fs cs =>
    refine pure_val (fun w => ?_) h
    rw [amap (ev f) fs, amap (ev f) cs]
    rfl
  case nilCheck x =>
    split at h
    · rename_i a e; rw [e]; exact ⟨_, fun _ => rfl, h⟩
    · rename_i n fs cs e; rw [e]; exact ⟨_, fun _ => rfl, h⟩
    · exact h.elim
  case makeInterface t x => obtain ⟨v, h1, h2⟩ := h; exact pure_val h1 h2
  case convert s d x =>
    split at h
    · rename_i k k' k2 n e1 e2 e3
      have hs := hL.ty s; have hd := hL.ty d
      rw [e1] at hs; rw [e2] at hd
      exact pure_val (fun w => by simp [convert, run_underlying hs.1, run_underlying hd.1, e3, Conv.intToInt]) h
    · rename_i s' e1 e2 e3
      have hs := hL.ty s; have hd := hL.ty d
      rw [e1] at hs; rw [e2] at hd
      exact pure_val (fun w => by simp [convert, run_underlying hs.1, run_underlying hd.1, e3]) h
    · obtain ⟨v, h1, h2⟩ := h; exact pure_val h1 h2
  case call c =>
    obtain ⟨callee, args, ats⟩ := c
    cases callee with
    | invoke r m => exact h.elim
    | value fo => exact h.elim
    | builtin b =>
      simp only at h
      cases hp : isPureB b
      · rw [hp] at h; exact h.elim
      · rw [hp] at h
        obtain ⟨v, h1, h2⟩ := vPureB_sound hL b ats T _ _ K h
        refine ⟨v, fun w => ?_, h2⟩
        simp only [resolve, Sem.run_bind, Sem.run_pure, Result.andThen_ok, invoke]
        rw [amap (ev f) args]
        exact h1 w
  all_goals exact h.elim

theorem vOp_sound (hL : L.Ok P) (T : Nat) (op : Op) (f : Fr) (w : World) (K : Value → World → Prop) (h : vOp P L T op f w K)
    (dst : Option Nat) (pos : String) (after : Array Edge) (g : Option (Nat × Bool)) : Goes P K ((execOp (ev f) ⟨dst, op, T, pos, after, g⟩).run P w) := by
  have pure_ : pOp P L T op f (fun v => K v w) → Goes P K ((execOp (ev f) ⟨dst, op, T, pos, after, g⟩).run P w) := by
    intro hp
    obtain ⟨v, h1, h2⟩ := pOp_sound hL T op f _ hp dst pos after g
    rw [h1]
    exact h2
  cases op
  all_goals (try (exact pure_ h))
  all_goals simp only [vOp, vMap_eq, pMap_eq, cellsK_eq] at h
  all_goals simp only [execOp]
  case load t x =>
    have ht := hL.ty t
    generalize hd : L.ty t = d at h ht
    have key : ∀ (a : Addr) (v : Value), ev f x = .pointer (some a) → (loadVar t a).run P w = .ok v w → K v w → Goes P K ((do pure (.value (← Instr.loadAt t (ev f x))) : Sem Next).run P w) := by
      intro a v e hr hk
      refine goes_val ?_ hk
      simp [Instr.loadAt, e, Instr.sureAddr, hr]
    generalize hx : ev f x = vx at h key
    cases vx with
    | pointer p =>
      cases p with
      | none => cases d <;> exact h.elim
      | some a =>
        cases d with
        | none => exact h.elim
        | array n e esz z =>
          obtain ⟨cs, h1, h2, h3⟩ := h
          exact key a _ rfl (run_loadAgg ht.1 rfl (szN_of ht.2.1) h1 h2) h3
        | struct fs z =>
          obtain ⟨cs, h1, h2, h3⟩ := h
          obtain ⟨⟨F, hu, _⟩, hz⟩ := ht
          exact key a _ rfl (run_loadAgg hu rfl (szN_of hz) h1 h2) h3
        | int k => obtain ⟨v, h1, h2⟩ := h; exact key a _ rfl (run_loadOne ht.1 rfl h1) h2
        | str => obtain ⟨v, h1, h2⟩ := h; exact key a _ rfl (run_loadOne ht.1 rfl h1) h2
        | bool => obtain ⟨v, h1, h2⟩ := h; exact key a _ rfl (run_loadOne ht.1 rfl h1) h2
        | slice e s => obtain ⟨v, h1, h2⟩ := h; exact key a _ rfl (run_loadOne ht.1 rfl h1) h2
        | one z => obtain ⟨v, h1, h2⟩ := h; obtain ⟨⟨u, hu, hg⟩, _⟩ := ht; exact key a _ rfl (run_loadOne hu hg h1) h2
    | _ => cases d <;> exact h.elim
  case store t x y =>
    have ht := hL.ty t
    generalize hd : L.ty t = d at h ht
    generalize hx : ev f x = vx at h
    have main : ∀ a, d ≠ .none → vx = .pointer (some a) → cond (Nat.beq (ev f y).cells.toList.length d.size) (mayStore w a (ev f y).cells.toList 0 ∧ ∀ w', Stored w a (ev f y).cells.toList w' → K undef w') False →
        Goes P K ((do (Instr.storeAt t vx (ev f y)); pure .skip : Sem Next).run P w) := by
      intro a hn e1 h
      cases hb : Nat.beq (ev f y).cells.toList.length d.size
      · rw [hb] at h; exact h.elim
      · rw [hb] at h
        obtain ⟨h1, h2⟩ := h
        have e := Nat.eq_of_beq_eq_true hb
        obtain ⟨v, hz, _⟩ := td_zero ht hn
        have h3 := h2 _ rfl
        simp only [Instr.storeAt, e1, Instr.sureAddr, storeVar, Sem.run_bind, Sem.run_pure, Result.andThen_ok, run_size (szN_of hz)]
        rw [Sem.run_ite, if_neg (by simpa using e)]
        simp only [Result.andThen_ok, run_storeCells _ _ _ h1]
        exact h3
    cases vx with
    | pointer p =>
      cases p with
      | none => cases d <;> exact h.elim
      | some a =>
        cases d <;> first
          | exact h.elim
          | exact main a (fun e => by cases e) rfl h
    | _ => cases d <;> exact h.elim
  case alloc t =>
    have ht := hL.ty t
    generalize hd : L.ty t = d at h ht
    have main : d ≠ .none → (∀ g w', New w d.zero t g w' → K (.pointer (some ⟨g, 0, none⟩)) w') → Goes P K ((do pure (.value (← Instr.alloc t true (.tuple #[]))) : Sem Next).run P w) := by
      intro hn h
      obtain ⟨v, hz, hc, _⟩ := td_zero ht hn
      refine goes_val (w' := w.alloc (.cells d.zero.toArray t)) ?_ (h w.heap.size _ ⟨rfl, rfl⟩)
      simp [Instr.alloc, run_zero hz, newVar, newRow, hc]
    cases d <;> first
      | exact h.elim
      | exact main (fun e => by cases e) h
  case box t x =>
    refine goes_val (w' := w.alloc (.cells (ev f x).cells t)) ?_ (h w.heap.size _ ⟨rfl, by simp⟩)
    simp [Instr.box, newVar, newRow]
  case buildSlice t n ps =>
    have ht := hL.ty t
    generalize hd : L.ty t = d at h ht
    cases d with
    | slice e esz =>
      simp only at h
      cases hb : (Nat.ble (n * esz) 16777216 && !Nat.beq esz 0 && !Nat.beq n 0) with
      | false => rw [hb] at h; exact h.elim
      | true =>
        rw [hb] at h
        simp only [cond_true] at h
        simp only [Bool.and_eq_true, Bool.not_eq_true'] at hb
        obtain ⟨⟨b1, b2⟩, b3⟩ := hb
        have c1 := Nat.le_of_ble_eq_true b1
        have c2 : esz ≠ 0 := fun e => by subst e; cases b2
        have c3 : n ≠ 0 := fun e => by subst e; cases b3
        have te := hL.ty e
        generalize hde : L.ty e = de at h te
        have main : de ≠ .none → cond (Nat.beq de.size esz) (match fillA esz (zeros de.zero n) (ps.toList.map fun p => (p.1, ev f p.2)) with
            | some cs => ∀ g w', New w cs e g w' → K (.slice (some ⟨g, 0, none⟩) n n) w'
            | none => False) False → Goes P K ((do pure (.value (← Instr.buildSlice t n (ps.map fun (i, x) => (i, ev f x)))) : Sem Next).run P w) := by
          intro hn h
          obtain ⟨v, hz, hc, hlen⟩ := td_zero te hn
          cases hb2 : Nat.beq de.size esz with
          | false => rw [hb2] at h; exact h.elim
          | true =>
            rw [hb2] at h
            have hs := Nat.eq_of_beq_eq_true hb2
            simp only [cond_true] at h
            split at h
            · rename_i cs hcs
              refine goes_val (w' := w.alloc (.cells cs.toArray e)) ?_ (h w.heap.size _ ⟨rfl, rfl⟩)
              have hfa := fill_A esz _ _ _ hcs
              have hne : n * esz ≠ 0 := Nat.mul_ne_zero c3 c2
              simp only [Instr.buildSlice, Sem.run_bind, run_underlying ht.1, Result.andThen_ok, run_size ht.2.2]
              rw [if_neg (by omega)]
              simp only [Sem.run_bind, Sem.run_pure, Result.andThen_ok, Sem.run_ite]
              rw [if_neg hne]
              simp only [Result.andThen_ok, run_zero hz, hc]
              have hzz := zeros_eq de.zero (by omega) n
              rw [hlen, hs] at hzz
              rw [hzz, Array.toList_map, hfa]
              simp [newRow]
            · exact h.elim
        cases de <;> first
          | exact h.elim
          | exact main (fun e => by cases e) h
    | _ => exact h.elim
  case convert s d x =>
    split at h
    · rename_i k k' k2 n e1 e2 e3
      have hs := hL.ty s; have hd := hL.ty d
      rw [e1] at hs; rw [e2] at hd
      exact goes_val (by simp [convert, run_underlying hs.1, run_underlying hd.1, e3, Conv.intToInt]) h
    · rename_i s' e1 e2 e3
      have hs := hL.ty s; have hd := hL.ty d
      rw [e1] at hs; rw [e2] at hd
      exact goes_val (by simp [convert, run_underlying hs.1, run_underlying hd.1, e3]) h
    · exact Runs.goes h
  case makeMap t r => exact Runs.goes h
  case makeSlice t l c => exact Runs.goes h
  case lookup t x i ok => exact Runs.goes h
  case mapUpdate t m k x =>
    obtain ⟨w', h1, h2⟩ := h
    simp only [Sem.run_bind, h1, Result.andThen_ok, Sem.run_pure]
    exact h2
  case insert t m k x =>
    obtain ⟨w', h1, h2⟩ := h
    simp only [Sem.run_bind, h1, Result.andThen_ok, Sem.run_pure]
    exact h2
  case call c =>
    obtain ⟨callee, args, ats⟩ := c
    cases callee with
    | invoke r m => exact h.elim
    | builtin b =>
      simp only at h
      simp only [resolve, Sem.run_bind, Sem.run_pure, Result.andThen_ok, invoke]
      cases hp : isPureB b
      · rw [hp] at h
        obtain ⟨v, w', h1, h2⟩ := h
        rw [amap (ev f) args]
        exact Eq.mpr (congrArg (Goes P K) h1) h2
      · rw [hp] at h
        simp only [cond_true] at h
        obtain ⟨v, h1, h2⟩ := vPureB_sound hL b ats T _ _ _ h
        rw [amap (ev f) args]
        exact Eq.mpr (congrArg (Goes P K) (h1 w)) h2
    | value fo =>
      simp only at h
      split at h
      · rename_i n first captured e
        have main : vCall P L n (first.toList ++ args.toList.map (ev f) ++ captured.toList) w K := by
          split at h
          · rename_i e1 e2
            rw [e1, e2]
            simpa using h
          · exact h
        unfold vCall at main
        cases hf : L.fns n with
        | false => rw [hf] at main; exact main.elim
        | true =>
          rw [hf] at main
          have hc : ∀ (args : Array Value) (w : World), (callFunc n args).run P w = .ok (.enter n args) w := hL.fns n hf
          simp only [resolve, Sem.run_bind, Sem.run_pure, Result.andThen_ok, e, Deferred.ofValue, invoke]
          have e2 : first ++ args.map (ev f) ++ captured = (first.toList ++ args.toList.map (ev f) ++ captured.toList).toArray := by
            apply Array.toList_inj.1
            simp
          rw [e2, hc]
          exact main.calls
      · exact h.elim

theorem Agree.eval {n : Nat} {a : Act} {f : Fr} (h : Agree n a f) : a.eval = ev f := by
  funext x
  cases x with
  | tmp t => exact h.2.2 t
  | _ => rfl
theorem Agree.put {n : Nat} {a : Act} {f : Fr} (h : Agree n a f) {t : Nat} (ht : t < n) (v : Value) : Agree n (a.put (some t) v) (upd f t v) := by
  refine ⟨h.1, by simp [Act.put, h.2.1], fun s => ?_⟩
  unfold upd
  cases hb : Nat.beq s t with
  | true =>
    have := Nat.eq_of_beq_eq_true hb
    subst this
    simp [Act.put, Array.getD_eq_getD_getElem?, h.2.1, ht]
  | false =>
    have hne : t ≠ s := fun e => by subst e; simp at hb
    rw [cond_false, ← h.2.2 s]
    simp [Act.put, Array.getD_eq_getD_getElem?, Array.getElem?_setIfInBounds_ne hne]
theorem upd_same {f : Fr} {t : Nat} {v : Value} (h : f t = v) : upd f t v = f := by
  funext s
  unfold upd
  cases hb : Nat.beq s t with
  | true => have := Nat.eq_of_beq_eq_true hb; subst this; exact h.symm
  | false => rfl

theorem Agree.putO {n : Nat} {a : Act} {f : Fr} (h : Agree n a f) {d : Option Nat} (hd : (match d with | some t => Nat.blt t n | none => true) = true) (v : Value) : Agree n (a.put d v) (updO f d v) := by
  cases d with
  | none => exact h
  | some t => exact h.put (Nat.le_of_ble_eq_true hd) v
theorem updK_eq (f : Fr) (d : Option Nat) (v : Value) (K : Fr → Prop) : updK f d v K = K (updO f d v) := by cases d <;> rfl

theorem guard_spec {n : Nat} {a : Act} {f : Fr} (hA : Agree n a f) {ops0 : List Oper} {j t : Nat} {b : Bool} (hg : guardOf ops0 f j = some (t, b)) {dst : Option Nat} {op : Op} {T : Nat} {pos : String} {after : Array Edge} {want : Bool} :
    upd f t (.bool b) = f ∧ Region.wanted ⟨dst, op, T, pos, after, some (j, want)⟩ (yielded ops0.toArray a.tmps) = (b == want) := by
  have hft : f t = .bool b ∧ (ops0[j]?).bind (·.dst) = some t := by
    unfold guardOf at hg
    cases ho : ops0[j]? with
    | none => rw [ho] at hg; cases hg
    | some o =>
      rw [ho] at hg
      simp only at hg
      cases hdo : o.dst with
      | none => rw [hdo] at hg; cases hg
      | some s =>
        rw [hdo] at hg
        simp only at hg
        cases hfs : f s <;> rw [hfs] at hg <;> first
          | (cases hg; exact ⟨hfs, by simp [hdo]⟩)
          | (simp at hg)
  refine ⟨upd_same hft.1, ?_⟩
  have htn : a.tmps[t]? = some (.bool b) := by
    have h1 := hA.2.2 t
    rw [hft.1] at h1
    rw [Array.getD_eq_getD_getElem?] at h1
    cases hx : a.tmps[t]? with
    | none => rw [hx] at h1; cases h1
    | some x => rw [hx] at h1; exact congrArg some h1
  simp only [Region.wanted, yielded, List.getElem?_toArray, hft.2, Option.bind_some, htn]
  cases b <;> cases want <;> rfl

theorem guard_none {n : Nat} {a : Act} {f : Fr} (hA : Agree n a f) {ops0 : List Oper} {j : Nat} (hg : guardOf ops0 f j = none) {dst : Option Nat} {op : Op} {T : Nat} {pos : String} {after : Array Edge} {want : Bool} :
    Region.wanted ⟨dst, op, T, pos, after, some (j, want)⟩ (yielded ops0.toArray a.tmps) = false := by
  have h : yielded ops0.toArray a.tmps j = none := by
    unfold guardOf at hg
    simp only [yielded, List.getElem?_toArray]
    cases ho : ops0[j]? with
    | none => rfl
    | some o =>
      rw [ho] at hg
      simp only at hg
      cases hdo : o.dst with
      | none => simp [hdo]
      | some s =>
        rw [hdo] at hg
        simp only at hg
        simp only [Option.bind_some, hdo]
        have h1 := hA.2.2 s
        rw [Array.getD_eq_getD_getElem?] at h1
        cases hx : a.tmps[s]? with
        | none => rfl
        | some x =>
          rw [hx] at h1
          simp only [Option.getD_some] at h1
          rw [← h1] at hg
          cases x <;> first | rfl | (simp at hg)
  simp only [Region.wanted, h]
  cases want <;> rfl

theorem vOps_sound (hL : L.Ok P) (n : Nat) (ops0 : List Oper) (K : Fr → World → Prop) (Q : Exit → Act → World → Prop) (hQ : ∀ a f w, Agree n a f → K f w → Q .normal a w) :
    ∀ (l : List Oper) (a : Act) (f : Fr) (w : World), Agree n a f → dstsOk n l = true → vOps P L ops0 l f w K → wpList P ops0.toArray Q l a w
  | [], a, f, w, hA, _, h => hQ a f w hA h
  | ⟨dst, op, T, pos, after, none⟩ :: r, a, f, w, hA, hd, h => by
    simp only [dstsOk, Bool.and_eq_true] at hd
    have h' : vOp P L T op f w fun v w' => updK f dst v fun f' => vOps P L ops0 r f' w' K := h
    have hg := vOp_sound hL T op f w _ h' dst pos after none
    refine wpList_plain rfl fun Kn hKn => ?_
    unfold Oper.wp
    rw [hA.eval]
    refine hg.upon _ _ _ _ fun v w' hk => hKn _ _ ?_
    rw [updK_eq] at hk
    exact vOps_sound hL n ops0 K Q hQ r _ _ _ (hA.putO hd.1 v) hd.2 hk
  | ⟨dst, op, T, pos, after, some (j, want)⟩ :: r, a, f, w, hA, hd, h => by
    simp only [dstsOk, Bool.and_eq_true] at hd
    have h' : (match guardOf ops0 f j with
        | some (t, b) => Bool.rec (motive := fun _ => Prop)
            (cond want (updK (upd f t (.bool false)) dst undef fun f' => vOps P L ops0 r f' w K)
             (vOp P L T op (upd f t (.bool false)) w fun v w' => updK (upd f t (.bool false)) dst v fun f' => vOps P L ops0 r f' w' K))
            (cond want (vOp P L T op (upd f t (.bool true)) w fun v w' => updK (upd f t (.bool true)) dst v fun f' => vOps P L ops0 r f' w' K)
             (updK (upd f t (.bool true)) dst undef fun f' => vOps P L ops0 r f' w K)) b
        | none => updK f dst undef fun f' => vOps P L ops0 r f' w K) := h
    cases hg : guardOf ops0 f j with
    | none =>
      rw [hg] at h'
      simp only [updK_eq] at h'
      refine wpList_step fun Kn hKn => ?_
      rw [if_neg (by rw [guard_none hA hg]; simp)]
      exact hKn _ _ (vOps_sound hL n ops0 K Q hQ r _ _ _ (hA.putO hd.1 undef) hd.2 h')
    | some tb =>
      obtain ⟨t, b⟩ := tb
      rw [hg] at h'
      simp only at h'
      have hft : f t = .bool b ∧ (ops0[j]?).bind (·.dst) = some t := by
        unfold guardOf at hg
        cases ho : ops0[j]? with
        | none => rw [ho] at hg; cases hg
        | some o =>
          rw [ho] at hg
          simp only at hg
          cases hdo : o.dst with
          | none => rw [hdo] at hg; cases hg
          | some s =>
            rw [hdo] at hg
            simp only at hg
            cases hfs : f s <;> rw [hfs] at hg <;> first
              | (cases hg; exact ⟨hfs, by simp [hdo]⟩)
              | (simp at hg)
      have hu : upd f t (.bool b) = f := upd_same hft.1
      have htn : a.tmps[t]? = some (.bool b) := by
        have h1 := hA.2.2 t
        rw [hft.1] at h1
        rw [Array.getD_eq_getD_getElem?] at h1
        cases hx : a.tmps[t]? with
        | none => rw [hx] at h1; cases h1
        | some x => rw [hx] at h1; exact congrArg some h1
      have hw : Region.wanted ⟨dst, op, T, pos, after, some (j, want)⟩ (yielded ops0.toArray a.tmps) = (b == want) := by
        simp only [Region.wanted, yielded, List.getElem?_toArray, hft.2, Option.bind_some, htn]
        cases b <;> cases want <;> rfl
      have yes : vOp P L T op f w (fun v w' => updK f dst v fun f' => vOps P L ops0 r f' w' K) → (b == want) = true → wpList P ops0.toArray Q (⟨dst, op, T, pos, after, some (j, want)⟩ :: r) a w := by
        intro h2 he
        have hg := vOp_sound hL T op f w _ h2 dst pos after (some (j, want))
        refine wpList_step fun Kn hKn => ?_
        rw [if_pos (by rw [hw]; exact he)]
        unfold Oper.wp
        rw [hA.eval]
        refine hg.upon _ _ _ _ fun v w' hk => hKn _ _ ?_
        rw [updK_eq] at hk
        exact vOps_sound hL n ops0 K Q hQ r _ _ _ (hA.putO hd.1 v) hd.2 hk
      have no : updK f dst undef (fun f' => vOps P L ops0 r f' w K) → (b == want) = false → wpList P ops0.toArray Q (⟨dst, op, T, pos, after, some (j, want)⟩ :: r) a w := by
        intro h2 he
        refine wpList_step fun Kn hKn => ?_
        rw [if_neg (by rw [hw, he]; simp)]
        refine hKn _ _ ?_
        rw [updK_eq] at h2
        exact vOps_sound hL n ops0 K Q hQ r _ _ _ (hA.putO hd.1 undef) hd.2 h2
      cases b <;> cases want <;> simp only [cond_true, cond_false, hu] at h'
      · exact yes h' rfl
      · exact no h' rfl
      · exact no h' rfl
      · exact yes h' rfl

theorem lk_fits {f : Fr} : ∀ {l : List (Nat × Value)}, fits f l → ∀ {t : Nat} {v : Value}, lk l t = some v → f t = v
  | (s, v') :: r, ⟨h1, h2⟩, t, v, h => by
    simp only [lk] at h
    cases hb : Nat.beq t s with
    | true => rw [hb] at h; have := Nat.eq_of_beq_eq_true hb; subst this; cases h; exact h1
    | false => rw [hb] at h; exact lk_fits h2 h
theorem mk_fits {f : Fr} {l : List (Nat × Value)} (h : fits f l) : mk l f = f := by
  funext t
  unfold mk
  cases hl : lk l t with
  | none => rfl
  | some v => exact (lk_fits h hl).symm

def Post (n : Nat) (K : Exit → Fr → World → Prop) (e : Exit) (a : Act) (w : World) : Prop := ∃ f, Agree n a f ∧ K e f w

theorem vCode_sound (hL : L.Ok P) (n : Nat) : ∀ (c : Code) (K : Exit → Fr → World → Prop) (a : Act) (f : Fr) (w : World), Agree n a f → codeOk n c = true → vCode P L c f w K → c.wp P (Post n K) a w := by
  intro c
  induction c with
  | skip => intro K a f w hA _ h; exact wp_skip ⟨f, hA, h⟩
  | region id ops d =>
    intro K a f w hA hc h
    cases d with
    | true =>
      have h' : Drawn P id ops f w (K .normal) := h
      exact wp_mono (h'.wp n a hc hA) fun e a w ⟨he, f', h1, h2⟩ => by subst he; exact ⟨f', h1, h2⟩
    | false =>
      have h' : vOps P L ops.toList ops.toList f w (K .normal) := h
      have := vOps_sound hL n ops.toList (K .normal) (Post n K) (fun a f w h1 h2 => ⟨f, h1, h2⟩) ops.toList a f w hA hc h'
      exact wp_region_list (by simpa using this)
  | seq x y ihx ihy =>
    intro K a f w hA hc h
    simp only [codeOk, Bool.and_eq_true] at hc
    have h' : vCode P L x f w (seqK (vCode P L y) K) := h
    refine wp_seq (wp_mono (ihx _ a f w hA hc.1 h') fun e a1 w1 ⟨f1, h1, h2⟩ => ?_)
    cases e with
    | normal => exact ihy K a1 f1 w1 h1 hc.2 h2
    | _ => exact ⟨f1, h1, h2⟩
  | cond x y z ihy ihz =>
    intro K a f w hA hc h
    simp only [codeOk, Bool.and_eq_true] at hc
    have h' : (match ev f x with
      | .bool t => Bool.rec (motive := fun _ => Prop) (vCode P L z f w K) (vCode P L y f w K) t
      | _ => False) := h
    split at h'
    · rename_i t e
      refine wp_cond (t := t) (by rw [hA.eval]; exact e) ?_
      cases t
      · exact ihz K a f w hA hc.2 h'
      · exact ihy K a f w hA hc.1 h'
    · exact h'.elim
  | block id b ih =>
    intro K a f w hA hc h
    refine wp_block (wp_mono (ih _ a f w hA hc h) fun e a1 w1 ⟨f1, h1, h2⟩ => ?_)
    cases e with
    | exit i =>
      have h3 : cond (Nat.beq i id) (K .normal f1 w1) (K (.exit i) f1 w1) := h2
      show if i = id then _ else _
      cases hb : Nat.beq i id with
      | true => rw [hb] at h3; rw [if_pos (Nat.eq_of_beq_eq_true hb)]; exact ⟨f1, h1, h3⟩
      | false => rw [hb] at h3; rw [if_neg (fun e => by subst e; simp at hb)]; exact ⟨f1, h1, h3⟩
    | _ => exact ⟨f1, h1, h2⟩
  | loop b ih =>
    intro K a f w hA hc h
    obtain ⟨α, st, inv, μ, x0, hf, hi, hr⟩ := h
    refine wp_loop_ghost (fun k a2 w2 => ∃ x2 f2, Agree n a2 f2 ∧ fits f2 (st x2) ∧ inv x2 w2 ∧ μ x2 w2 = k) (μ x0 w) ⟨x0, f, hA, hf, hi, rfl⟩ ?_
    rintro k a2 w2 ⟨x2, f2, hA2, hf2, hi2, rfl⟩
    have h3 := hr x2 w2 f2 hi2
    rw [mk_fits hf2] at h3
    refine wp_mono (ih _ a2 f2 w2 hA2 hc h3) fun e a3 w3 ⟨f3, h4, h5⟩ => ?_
    cases e with
    | normal =>
      obtain ⟨x3, h6, h7, h8⟩ := h5
      exact ⟨μ x3 w3, h8, x3, f3, h4, h6, h7, rfl⟩
    | _ => exact ⟨f3, h4, h5⟩
  | rangeFunc => intro K a f w hA hc h; exact h.elim
  | exit id => intro K a f w hA _ h; exact wp_exit ⟨f, hA, h⟩
  | scope => intro K a f w hA hc h; exact h.elim
  | label => intro K a f w hA hc h; exact wp_label ⟨f, hA, h⟩
  | goto => intro K a f w hA hc h; exact h.elim
  | ret => intro K a f w hA hc h; exact wp_ret ⟨f, hA, h⟩
  | refuse => intro K a f w hA hc h; exact h.elim

theorem vRes_sound (hL : L.Ok P) (n : Nat) (a : Act) (f : Fr) (w : World) (hA : Agree n a f) :
    ∀ (rs : List ResultVar) (vs : List Value) (K : List Value → Prop), vRes L f w rs vs K →
      ∃ l, (rs.mapM (fun | .tmp t => pure (a.tmps.getD t undef) | .cell x t => do loadVar t (← asAddr (a.tmps.getD x undef))) : Sem (List Value)).run P w = .ok l w ∧ K (vs.reverse ++ l)
  | [], vs, K, h => ⟨[], rfl, by rw [List.append_nil]; exact h⟩
  | .tmp t :: r, vs, K, h => by
    simp only [vRes, force_eq] at h
    obtain ⟨l, h1, h2⟩ := vRes_sound hL n a f w hA r _ K h
    refine ⟨f t :: l, ?_, by simpa using h2⟩
    simp only [List.mapM_cons, Sem.run_bind, Sem.run_pure, Result.andThen_ok, h1, hA.2.2 t]
  | .cell x t :: r, vs, K, h => by
    have ht := hL.ty t
    have hx := hA.2.2 x
    have key : ∀ (p : Addr) (v : Value), f x = .pointer (some p) → (loadVar t p).run P w = .ok v w → vRes L f w r (v :: vs) K →
        ∃ l, ((ResultVar.cell x t :: r).mapM (fun | .tmp t => pure (a.tmps.getD t undef) | .cell x t => do loadVar t (← asAddr (a.tmps.getD x undef))) : Sem (List Value)).run P w = .ok l w ∧ K (vs.reverse ++ l) := by
      intro p v e hr hk
      obtain ⟨l, h1, h2⟩ := vRes_sound hL n a f w hA r _ K hk
      refine ⟨v :: l, ?_, by simpa using h2⟩
      have hax : (asAddr (a.tmps.getD x undef)).run P w = .ok p w := by rw [hx, e]; rfl
      simp only [List.mapM_cons, Sem.run_bind, hax, hr, Result.andThen_ok, Sem.run_pure, h1]
    simp only [vRes] at h
    generalize hd : L.ty t = d at h ht
    generalize he : f x = vx at h key
    cases vx with
    | pointer p =>
      cases p with
      | none => cases d <;> exact h.elim
      | some p =>
        cases d with
        | none => exact h.elim
        | array n e esz z =>
          obtain ⟨cs, h1, h2, h3⟩ := h
          exact key p _ rfl (run_loadAgg ht.1 rfl (szN_of ht.2.1) h1 h2) h3
        | struct fs z =>
          obtain ⟨cs, h1, h2, h3⟩ := h
          obtain ⟨⟨F, hu, _⟩, hz⟩ := ht
          exact key p _ rfl (run_loadAgg hu rfl (szN_of hz) h1 h2) h3
        | int k => obtain ⟨v, h1, h2⟩ := h; exact key p _ rfl (run_loadOne ht.1 rfl h1) h2
        | str => obtain ⟨v, h1, h2⟩ := h; exact key p _ rfl (run_loadOne ht.1 rfl h1) h2
        | bool => obtain ⟨v, h1, h2⟩ := h; exact key p _ rfl (run_loadOne ht.1 rfl h1) h2
        | slice e s => obtain ⟨v, h1, h2⟩ := h; exact key p _ rfl (run_loadOne ht.1 rfl h1) h2
        | one z => obtain ⟨v, h1, h2⟩ := h; obtain ⟨⟨u, hu, hg⟩, _⟩ := ht; exact key p _ rfl (run_loadOne hu hg h1) h2
    | _ => cases d <;> exact h.elim

theorem oneOr_eq (l : List Value) : (if h : l.toArray.size = 1 then l.toArray[0] else .tuple l.toArray) = oneOr l := by
  match l with
  | [] => rfl
  | [v] => rfl
  | v :: u :: r => rw [dif_neg (by simp)]; rfl
theorem results_sound (hL : L.Ok P) (n : Nat) (a : Act) (f : Fr) (w : World) (hA : Agree n a f) (fn : Func) (R : Ending → World → Prop)
    (h : vRes L f w fn.results.toList [] fun vs => R (.returned (oneOr vs)) w) : ∃ v, (results fn a.tmps).run P w = .ok v w ∧ R (.returned v) w := by
  obtain ⟨l, h1, h2⟩ := vRes_sound hL n a f w hA _ _ _ h
  refine ⟨oneOr l, ?_, by simpa using h2⟩
  unfold results
  rw [Sem.run_bind, Array.mapM_eq_mapM_toList, Sem.run_map]
  refine (congrArg (fun (r : Result (List Value)) => (r.andThen fun a w' => Result.ok a.toArray w').andThen fun (a : Array Value) w' => Sem.run P (pure (if h : a.size = 1 then a[0] else .tuple a)) w') h1).trans ?_
  simp only [Result.andThen_ok, Sem.run_pure]
  rw [← oneOr_eq]

theorem calls_vc (hL : L.Ok P) {k : Nat} {fn : Func} {c : Code} {args : List Value} {w : World} {R : Ending → World → Prop}
    (hf : P.funcs[k]? = some fn) (hb : fn.body = some c) (ha : Nat.ble args.length fn.ntmps = true) (hc : codeOk fn.ntmps c = true)
    (h : vCode P L c (initF args) w (fnK L fn.results R)) : Calls P k args.toArray w R := by
  refine calls_of_wp hf hb ?_
  have hn := Nat.le_of_ble_eq_true ha
  have hA : Agree fn.ntmps { tmps := args.toArray ++ Array.replicate (fn.ntmps - args.toArray.size) undef, defers := [] } (initF args) := by
    refine ⟨rfl, by simp; omega, fun t => ?_⟩
    unfold initF
    rw [Array.getD_eq_getD_getElem?, List.getD_eq_getElem?_getD]
    rcases Nat.lt_or_ge t args.length with h1 | h1
    · rw [Array.getElem?_append_left (by simpa using h1)]
      simp
    · rw [Array.getElem?_append_right (by simpa using h1), List.getElem?_eq_none h1]
      simp only [Array.getElem?_replicate]
      split <;> rfl
  refine wp_mono (vCode_sound hL _ c _ _ _ w hA hc h) fun e a w ⟨f, h1, h2⟩ => ?_
  cases e with
  | normal => exact ⟨h1.1, results_sound hL _ a f w h1 fn R h2⟩
  | ret => exact ⟨h1.1, results_sound hL _ a f w h1 fn R h2⟩
  | _ => exact h2.elim

theorem split_ {b : Bool} {T F : Prop} (h1 : b = true → T) (h2 : b = false → F) : Bool.rec (motive := fun _ => Prop) F T b := by
  cases b
  · exact h2 rfl
  · exact h1 rfl
theorem split_t {b : Bool} {T F : Prop} (h : b = true) (h1 : T) : Bool.rec (motive := fun _ => Prop) F T b := by subst h; exact h1
theorem split_f {b : Bool} {T F : Prop} (h : b = false) (h1 : F) : Bool.rec (motive := fun _ => Prop) F T b := by subst h; exact h1
end
#print axioms calls_vc
end Go.Vc
