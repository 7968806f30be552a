/- Memory as the walks see it: local blocks, immutable data, rows. -/
import Derived.Test.YtcmdmcekbmodaaaVcS
namespace Go.Vc
open Go Go.RowKit
set_option linter.unusedVariables false

/-- What lay in 'S' stays as it is. -/
def Fut (S : Nat → Prop) (w : World) (S' : Nat → Prop) (w' : World) : Prop := (∀ b, S b → S' b) ∧ ∀ b, S b → w'.heap[b]? = w.heap[b]?
theorem Fut.refl (S : Nat → Prop) (w : World) : Fut S w S w := ⟨fun _ h => h, fun _ _ => rfl⟩
theorem Fut.trans {S S' S'' : Nat → Prop} {w w' w'' : World} (h : Fut S w S' w') (k : Fut S' w' S'' w'') : Fut S w S'' w'' :=
  ⟨fun b hb => k.1 b (h.1 b hb), fun b hb => (k.2 b (h.1 b hb)).trans (h.2 b hb)⟩
/-- 'S', and all blocks that have come between two worlds. -/
def ext (S : Nat → Prop) (w w' : World) : Nat → Prop := fun b => S b ∨ (w.heap.size ≤ b ∧ b < w'.heap.size)

abbrev LB := Nat × Nat × List Value
def Blk (w : World) (g T : Nat) (cs : List Value) : Prop := w.heap[g]? = some (.cells cs.toArray T (0, 0))
def Locs (S : Nat → Prop) (n0 : Nat) (w : World) : List LB → Prop
  | [] => True
  | (g, T, cs) :: r => n0 ≤ g ∧ ¬ S g ∧ Blk w g T cs ∧ (∀ x ∈ r, x.1 ≠ g) ∧ Locs S n0 w r

theorem Blk.lt {w : World} {g T : Nat} {cs : List Value} (h : Blk w g T cs) : g < w.heap.size := by
  rcases Nat.lt_or_ge g w.heap.size with hl | hg
  · exact hl
  · unfold Blk at h; rw [Array.getElem?_eq_none hg] at h; cases h
theorem Blk.cell {w : World} {g T : Nat} {cs : List Value} (h : Blk w g T cs) (i : Nat) : w.cell? ⟨g, i, none⟩ = cs[i]? := by
  unfold Blk at h
  simp [World.cell?, h]
theorem Blk.frozen {w : World} {g T : Nat} {cs : List Value} (h : Blk w g T cs) (i : Nat) : w.frozen? ⟨g, i, none⟩ = false := by
  unfold Blk at h
  simp [World.frozen?, h]
theorem Blk.of_eq {w w' : World} {g T : Nat} {cs : List Value} (h : Blk w g T cs) (e : w'.heap[g]? = w.heap[g]?) : Blk w' g T cs := e.trans h

theorem New.below {w w' : World} {cs : List Value} {T g : Nat} (h : New w cs T g w') : Below w.heap.size w w' := by
  obtain ⟨rfl, rfl⟩ := h
  exact (Below.refl _ _).alloc (Nat.le_refl _) _
theorem New.blk {w w' : World} {cs : List Value} {T g : Nat} (h : New w cs T g w') : Blk w' g T cs := by
  obtain ⟨rfl, rfl⟩ := h
  exact heap_alloc_new w _
theorem New.size {w w' : World} {cs : List Value} {T g : Nat} (h : New w cs T g w') : w'.heap.size = w.heap.size + 1 := by
  obtain ⟨rfl, rfl⟩ := h
  simp

theorem Locs.mono {S S' : Nat → Prop} {n0 : Nat} {w w' : World} : ∀ {l : List LB}, Locs S n0 w l → (∀ x ∈ l, w'.heap[x.1]? = w.heap[x.1]?) → (∀ x ∈ l, S' x.1 → S x.1) → Locs S' n0 w' l
  | [], _, _, _ => trivial
  | (g, T, cs) :: r, ⟨h1, h2, h3, h4, h5⟩, he, hs =>
    ⟨h1, fun h => h2 (hs _ (List.mem_cons_self ..) h), h3.of_eq (he _ (List.mem_cons_self ..)), h4,
      h5.mono (fun x hx => he x (List.mem_cons_of_mem _ hx)) (fun x hx => hs x (List.mem_cons_of_mem _ hx))⟩
theorem Locs.lt {S : Nat → Prop} {n0 : Nat} {w : World} : ∀ {l : List LB}, Locs S n0 w l → ∀ x ∈ l, x.1 < w.heap.size
  | (g, T, cs) :: r, ⟨h1, h2, h3, h4, h5⟩, x, hx => by
    cases hx with
    | head => exact h3.lt
    | tail _ h => exact h5.lt x h

/-- Where a function stands: it began in 'w0', what was there then is as it was; 'l': its own variables; 'S': blocks that nobody turns any more. -/
structure Ctx (S0 : Nat → Prop) (w0 : World) (S : Nat → Prop) (w : World) (l : List LB) : Prop where
  below : Below w0.heap.size w0 w
  sub : ∀ b, S0 b → S b
  new : ∀ b, S b → S0 b ∨ w0.heap.size ≤ b
  lt : ∀ b, S b → b < w.heap.size
  locs : Locs S w0.heap.size w l

section
variable {S0 S : Nat → Prop} {w0 w w' : World} {l : List LB}
theorem Ctx.start (w0 : World) (S0 : Nat → Prop) (h : ∀ b, S0 b → b < w0.heap.size) : Ctx S0 w0 S0 w0 [] :=
  ⟨Below.refl _ _, fun _ h => h, fun _ h => .inl h, h, trivial⟩
theorem below_fut (hlt : ∀ b, S b → b < w.heap.size) (h : Below w.heap.size w w') : Fut S w (ext S w w') w' :=
  ⟨fun _ hb => .inl hb, fun b hb => h.block b (hlt b hb)⟩
/-- A new block of the function's own. -/
theorem Ctx.loc (hc : Ctx S0 w0 S w l) {cs : List Value} {T g : Nat} (hN : New w cs T g w') : Ctx S0 w0 S w' ((g, T, cs) :: l) ∧ Fut S w S w' := by
  have hb := hN.below
  have hg : g = w.heap.size := hN.1
  have hfut : Fut S w S w' := ⟨fun _ h => h, fun b h => hb.block b (hc.lt b h)⟩
  refine ⟨⟨hc.below.trans (hb.mono hc.below.size), hc.sub, hc.new, fun b h => Nat.lt_of_lt_of_le (hc.lt b h) hb.size, ?_⟩, hfut⟩
  refine ⟨by rw [hg]; exact hc.below.size, fun h => by have := hc.lt _ h; omega, hN.blk, fun x hx e => ?_, ?_⟩
  · have := hc.locs.lt x hx
    omega
  · exact hc.locs.mono (fun x hx => hb.block _ (hc.locs.lt x hx)) (fun _ _ h => h)
/-- A call, or a new block that nobody turns. -/
theorem Ctx.call (hc : Ctx S0 w0 S w l) (hb : Below w.heap.size w w') : Ctx S0 w0 (ext S w w') w' l ∧ Fut S w (ext S w w') w' := by
  refine ⟨⟨hc.below.trans (hb.mono hc.below.size), fun b h => .inl (hc.sub b h), fun b h => ?_, fun b h => ?_, ?_⟩, below_fut hc.lt hb⟩
  · rcases h with h | h
    · exact hc.new b h
    · exact .inr (Nat.le_trans hc.below.size h.1)
  · rcases h with h | h
    · exact Nat.lt_of_lt_of_le (hc.lt b h) hb.size
    · exact h.2
  · refine hc.locs.mono (fun x hx => hb.block _ (hc.locs.lt x hx)) (fun x hx h => ?_)
    rcases h with h | h
    · exact h
    · have := hc.locs.lt x hx
      omega
/-- .. of which 'S' need not grow. -/
theorem Ctx.quiet (hc : Ctx S0 w0 S w l) (hb : Below w.heap.size w w') : Ctx S0 w0 S w' l ∧ Fut S w S w' := by
  refine ⟨⟨hc.below.trans (hb.mono hc.below.size), hc.sub, hc.new, fun b h => Nat.lt_of_lt_of_le (hc.lt b h) hb.size, ?_⟩, ⟨fun _ h => h, fun b h => hb.block b (hc.lt b h)⟩⟩
  exact hc.locs.mono (fun x hx => hb.block _ (hc.locs.lt x hx)) (fun _ _ h => h)
end

theorem Locs.get {S : Nat → Prop} {n0 : Nat} {w : World} : ∀ {l : List LB}, Locs S n0 w l → ∀ {k g T : Nat} {cs : List Value}, l[k]? = some (g, T, cs) → Blk w g T cs
  | (g, T, cs) :: r, ⟨_, _, h3, _, h5⟩, k, g', T', cs', h => by
    cases k with
    | zero => simp at h; obtain ⟨rfl, rfl, rfl⟩ := h; exact h3
    | succ k => exact h5.get (by simpa using h)
theorem Ctx.blk {S0 S : Nat → Prop} {w0 w : World} {l : List LB} (hc : Ctx S0 w0 S w l) (k : Nat) {g T : Nat} {cs : List Value} (h : l[k]? = some (g, T, cs)) : Blk w g T cs := hc.locs.get h
theorem Ctx.cell {S0 S : Nat → Prop} {w0 w : World} {l : List LB} (hc : Ctx S0 w0 S w l) (k : Nat) {g T : Nat} {cs : List Value} (h : l[k]? = some (g, T, cs)) (i : Nat) {v : Value} (hv : cs[i]? = some v) : w.cell? ⟨g, i, none⟩ = some v :=
  ((hc.blk k h).cell i).trans hv

theorem drop_cells {w : World} {g T : Nat} {cs : List Value} (h : Blk w g T cs) (o : Nat) : ∀ (xs : List Value) (i : Nat), (∀ j v, xs[j]? = some v → cs[o + i + j]? = some v) → cellsAt w ⟨g, o, none⟩ xs i
  | [], _, _ => trivial
  | v :: r, i, hx => by
    refine ⟨?_, drop_cells h o r (i + 1) (fun j u hj => ?_)⟩
    · rw [Addr.add_lit, h.cell]
      simpa using hx 0 v rfl
    · have := hx (j + 1) u (by simpa using hj)
      rwa [show o + i + (j + 1) = o + (i + 1) + j from by omega] at this
/-- All of a local block's cells. -/
theorem Ctx.cells {S0 S : Nat → Prop} {w0 w : World} {l : List LB} (hc : Ctx S0 w0 S w l) (k : Nat) {g T : Nat} {cs : List Value} (h : l[k]? = some (g, T, cs)) : cellsAt w ⟨g, 0, none⟩ cs 0 :=
  drop_cells (hc.blk k h) 0 cs 0 (fun j v hj => by simpa using hj)
/-- Some of them, from a place on. -/
theorem Ctx.cellsAt {S0 S : Nat → Prop} {w0 w : World} {l : List LB} (hc : Ctx S0 w0 S w l) (k : Nat) {g T : Nat} {cs : List Value} (h : l[k]? = some (g, T, cs)) (o : Nat) (xs : List Value) (hx : (cs.drop o).take xs.length = xs) : Go.Vc.cellsAt w ⟨g, o, none⟩ xs 0 :=
  drop_cells (hc.blk k h) o xs 0 (fun j v hj => by
    rw [← hx] at hj
    rw [List.getElem?_take] at hj
    split at hj
    · rw [List.getElem?_drop] at hj
      simpa using hj
    · cases hj)

theorem mayStore_blk {w : World} {g T : Nat} {cs : List Value} (h : Blk w g T cs) (o : Nat) : ∀ (xs : List Value) (i : Nat), o + i + xs.length ≤ cs.length → (∀ v ∈ xs, v.oneCell' = true) → mayStore w ⟨g, o, none⟩ xs i
  | [], _, _, _ => trivial
  | v :: r, i, hl, h1 => by
    simp only [List.length_cons] at hl
    refine ⟨⟨cs[o + i]'(by omega), ?_⟩, ?_, h1 v (List.mem_cons_self ..), mayStore_blk h o r (i + 1) (by omega) (fun u hu => h1 u (List.mem_cons_of_mem _ hu))⟩
    · rw [Addr.add_lit, h.cell]
      exact List.getElem?_eq_getElem (by omega)
    · rw [Addr.add_lit]; exact h.frozen _
def allOne : List Value → Bool
  | [] => true
  | v :: r => v.oneCell' && allOne r
theorem allOne_mem : ∀ {l : List Value}, allOne l = true → ∀ v ∈ l, v.oneCell' = true
  | u :: r, h, v, hv => by
    simp only [allOne, Bool.and_eq_true] at h
    cases hv with
    | head => exact h.1
    | tail _ h' => exact allOne_mem h.2 v h'
theorem Ctx.may {S0 S : Nat → Prop} {w0 w : World} {l : List LB} (hc : Ctx S0 w0 S w l) (k : Nat) {g T : Nat} {cs : List Value} (h : l[k]? = some (g, T, cs)) (o : Nat) (xs : List Value) (hl : o + xs.length ≤ cs.length) (h1 : allOne xs = true) : mayStore w ⟨g, o, none⟩ xs 0 :=
  mayStore_blk (hc.blk k h) o xs 0 (by omega) (allOne_mem h1)

theorem stored_blk {g T : Nat} (o : Nat) : ∀ (xs : List Value) (w : World) (i : Nat) (cs : List Value), Blk w g T cs →
    Blk (stored w ⟨g, o, none⟩ xs i) g T (putAt cs (o + i) xs) ∧ (∀ b, b ≠ g → (stored w ⟨g, o, none⟩ xs i).heap[b]? = w.heap[b]?) ∧
      (stored w ⟨g, o, none⟩ xs i).heap.size = w.heap.size ∧ (stored w ⟨g, o, none⟩ xs i).os = w.os ∧ (stored w ⟨g, o, none⟩ xs i).tape = w.tape ∧ (stored w ⟨g, o, none⟩ xs i).output = w.output
  | [], w, i, cs, h => ⟨h, fun _ _ => rfl, rfl, rfl, rfl, rfl⟩
  | v :: r, w, i, cs, h => by
    have hb : Blk (w.setCell ((⟨g, o, none⟩ : Addr).add i) v) g T (cs.set (o + i) v) := by
      rw [Addr.add_lit]
      unfold Blk at h ⊢
      simp only [World.setCell, Array.getElem?_modify]
      rw [if_pos trivial, h]
      simp
    obtain ⟨h1, h2, h3, h4, h5, h6⟩ := stored_blk o r _ (i + 1) _ hb
    refine ⟨h1, fun b hne => (h2 b hne).trans ?_, h3.trans (by simp), h4.trans rfl, h5.trans rfl, h6.trans rfl⟩
    rw [Addr.add_lit]
    exact Below.heap_setCell w _ v b hne
def setLoc : List LB → Nat → List Value → List LB
  | [], _, _ => []
  | (g, T, _) :: r, 0, cs => (g, T, cs) :: r
  | x :: r, k + 1, cs => x :: setLoc r k cs
theorem setLoc_mem : ∀ {l : List LB} {k : Nat} {cs : List Value} {x : LB}, x ∈ setLoc l k cs → ∃ y ∈ l, y.1 = x.1
  | (g, T, c) :: r, 0, cs, x, h => by
    simp only [setLoc] at h
    cases h with
    | head => exact ⟨(g, T, c), List.mem_cons_self .., rfl⟩
    | tail _ h => exact ⟨x, List.mem_cons_of_mem _ h, rfl⟩
  | y :: r, k + 1, cs, x, h => by
    simp only [setLoc] at h
    cases h with
    | head => exact ⟨_, List.mem_cons_self .., rfl⟩
    | tail _ h => obtain ⟨z, h1, h2⟩ := setLoc_mem h; exact ⟨z, List.mem_cons_of_mem _ h1, h2⟩
theorem Locs.set {S : Nat → Prop} {n0 : Nat} {w w' : World} : ∀ {l : List LB} {k g T : Nat} {cs cs' : List Value}, Locs S n0 w l → l[k]? = some (g, T, cs) → Blk w' g T cs' → (∀ b, b ≠ g → w'.heap[b]? = w.heap[b]?) → Locs S n0 w' (setLoc l k cs')
  | (g', T', c) :: r, k, g, T, cs, cs', ⟨h1, h2, h3, h4, h5⟩, hk, hb, ho => by
    cases k with
    | zero =>
      simp at hk
      obtain ⟨rfl, rfl, rfl⟩ := hk
      exact ⟨h1, h2, hb, h4, h5.mono (fun x hx => ho _ (h4 x hx)) (fun _ _ h => h)⟩
    | succ k =>
      have hk' : r[k]? = some (g, T, cs) := by simpa using hk
      have hne : g ≠ g' := h4 _ (List.mem_of_getElem? hk')
      refine ⟨h1, h2, h3.of_eq (ho _ (Ne.symm hne)), fun x hx => ?_, h5.set hk' hb ho⟩
      obtain ⟨y, hy, e⟩ := setLoc_mem hx
      rw [← e]; exact h4 y hy
theorem Locs.notS {S : Nat → Prop} {n0 : Nat} {w : World} : ∀ {l : List LB}, Locs S n0 w l → ∀ {k g T : Nat} {cs : List Value}, l[k]? = some (g, T, cs) → ¬ S g ∧ n0 ≤ g
  | (g, T, cs) :: r, ⟨h0, h2, h3, _, h5⟩, k, g', T', cs', h => by
    cases k with
    | zero => simp at h; obtain ⟨rfl, rfl, rfl⟩ := h; exact ⟨h2, h0⟩
    | succ k => exact h5.notS (by simpa using h)
/-- A store into a local block. -/
theorem Ctx.set {S0 S : Nat → Prop} {w0 w w' : World} {l : List LB} (hc : Ctx S0 w0 S w l) (k : Nat) {g T : Nat} {cs : List Value} (h : l[k]? = some (g, T, cs)) {o : Nat} {xs : List Value} (hS : Stored w ⟨g, o, none⟩ xs w') :
    Ctx S0 w0 S w' (setLoc l k (putAt cs o xs)) ∧ Fut S w S w' := by
  obtain ⟨h1, h2, h3, h4, h5, h6⟩ := stored_blk o xs w 0 cs (hc.blk k h)
  rw [← (show w' = _ from hS)] at h1 h2 h3 h4 h5 h6
  obtain ⟨hn, hge⟩ := hc.locs.notS h
  refine ⟨⟨?_, hc.sub, hc.new, fun b hb => by rw [h3]; exact hc.lt b hb, hc.locs.set h (by simpa using h1) h2⟩, ⟨fun _ h => h, fun b hb => h2 b (fun e => hn (e ▸ hb))⟩⟩
  exact hc.below.trans ⟨h4, h5, h6, by omega, fun b hb => h2 b (by omega)⟩

/-- A slice that reads as a list of cells. -/
def Row (S : Nat → Prop) (w : World) (A : Option Addr) (n cap : Nat) (xs : List Value) : Prop :=
  n ≤ cap ∧ cap ≤ maxLen ∧ (xs ≠ [] → ∃ ad, A = some ad ∧ S ad.block ∧ ∀ j u, xs[j]? = some u → w.cell? (ad.add j) = some u)
theorem add_block (a : Addr) (n : Nat) : (a.add n).block = a.block := by unfold Addr.add; split <;> rfl
theorem add_add (a : Addr) (i j : Nat) : (a.add i).add j = a.add (i + j) := by
  unfold Addr.add
  by_cases hi : i = 0 <;> by_cases hj : j = 0 <;> simp [hi, hj, Nat.add_assoc]
theorem Row.fut {S S' : Nat → Prop} {w w' : World} {A : Option Addr} {n cap : Nat} {xs : List Value} (h : Row S w A n cap xs) (f : Fut S w S' w') : Row S' w' A n cap xs :=
  ⟨h.1, h.2.1, fun hx => by
    obtain ⟨ad, e, hs, hc⟩ := h.2.2 hx
    exact ⟨ad, e, f.1 _ hs, fun j u hu => (World.cell?_of_block (f.2 _ (by rw [add_block]; exact hs))).trans (hc j u hu)⟩⟩
theorem Row.get {S : Nat → Prop} {w : World} {A : Option Addr} {n cap : Nat} {xs : List Value} (h : Row S w A n cap xs) {i : Nat} (hi : i < xs.length) :
    ∃ ad, A = some ad ∧ ∀ j u, xs[j]? = some u → w.cell? (ad.add j) = some u := by
  obtain ⟨ad, e, _, hc⟩ := h.2.2 (fun e => by subst e; simp at hi)
  exact ⟨ad, e, hc⟩
theorem row_cells {w : World} {ad : Addr} {xs : List Value} (hc : ∀ j u, xs[j]? = some u → w.cell? (ad.add j) = some u) (o : Nat) : ∀ (ys : List Value) (i : Nat), (∀ j u, ys[j]? = some u → xs[o + i + j]? = some u) → Go.Vc.cellsAt w (ad.add o) ys i
  | [], _, _ => trivial
  | v :: r, i, h => by
    refine ⟨?_, row_cells hc o r (i + 1) (fun j u hj => ?_)⟩
    · rw [add_add]; exact hc _ _ (by simpa using h 0 v rfl)
    · have := h (j + 1) u (by simpa using hj)
      rwa [show o + i + (j + 1) = o + (i + 1) + j from by omega] at this

/-- The forms of contracts. -/
def RetB (v : Value) (w : World) (e : Ending) (w' : World) : Prop := e = .returned v ∧ Below w.heap.size w w'
def RetS (F : Value → (Nat → Prop) → World → Prop) (S : Nat → Prop) (w : World) (e : Ending) (w' : World) : Prop := ∃ v, e = .returned v ∧ Below w.heap.size w w' ∧ F v (ext S w w') w'
theorem RetB.mk {v : Value} {w w' : World} (h : Below w.heap.size w w') : RetB v w (.returned v) w' := ⟨rfl, h⟩
theorem ret_bool {a b : Bool} (h : a = b) : Ending.returned (.bool a) = .returned (.bool b) := by rw [h]
theorem ret_int {k : IntKind} {a b : Int} (h : a = b) : Ending.returned (.int k a) = .returned (.int k b) := by rw [h]
theorem vc_nz {b : Int} {B : Prop} (h : b ≠ 0) (k : B) : b ≠ 0 ∧ B := ⟨h, k⟩
/-- At a call: the contract of a function that hands back a value that leads nowhere. -/
theorem call_b {P : Program} {n : Nat} {args : List Value} {w : World} {v : Value} {K : Value → World → Prop} (h : Calls P n args.toArray w (RetB v w))
    (k : ∀ w', Below w.heap.size w w' → K v w') : CallVc P n args w K :=
  ⟨h.mono fun _ w' ⟨he, hb⟩ => ⟨v, he, k w' hb⟩⟩
theorem call_s {P : Program} {n : Nat} {args : List Value} {w : World} {S : Nat → Prop} {F : Value → (Nat → Prop) → World → Prop} {K : Value → World → Prop} (h : Calls P n args.toArray w (RetS F S w))
    (k : ∀ v w', Below w.heap.size w w' → F v (ext S w w') w' → K v w') : CallVc P n args w K :=
  ⟨h.mono fun _ w' ⟨v, he, hb, hf⟩ => ⟨v, he, k v w' hb hf⟩⟩
/-- What a function leaves of 'S' lies in what was there and what is new. -/
theorem Ctx.out {S0 S : Nat → Prop} {w0 w : World} {l : List LB} (hc : Ctx S0 w0 S w l) : Fut S w (ext S0 w0 w) w :=
  ⟨fun b hb => by
    rcases hc.new b hb with h | h
    · exact .inl h
    · exact .inr ⟨h, hc.lt b hb⟩, fun _ _ => rfl⟩
end Go.Vc
