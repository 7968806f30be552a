import Derived.Test.YtokglimimnelaaaGreatDoorM05
set_option linter.unusedVariables false
set_option linter.unusedSimpArgs false
section
namespace Go.Vc
open Go Go.RowKit
set_option maxRecDepth 100000
theorem cellsAt_later {w w' : World} (hb : Below w.heap.size w w') {a : Addr} : ∀ (cs : List Value) (i : Nat), cellsAt w a cs i → cellsAt w' a cs i
  | [], _, _ => trivial
  | v :: r, i, h => ⟨cell_later hb h.1, cellsAt_later hb r (i + 1) h.2⟩
structure OR where
  e : Nat
  sz : Nat
  A : Option Addr
  n : Nat
  cap : Nat
  xs : List Value
def Owns (S : Nat → Prop) (n0 : Nat) (w : World) (l : List LB) : List OR → Prop
  | [] => True
  | o :: r => Own S n0 w l o.e o.sz o.A o.n o.cap o.xs ∧ (∀ p ∈ r, ∀ a b, o.A = some a → p.A = some b → a.block ≠ b.block) ∧ Owns S n0 w l r
abbrev Kn := (Nat → Prop) → World → Prop
def Stab (R : Kn) : Prop := ∀ S w S' w', R S w → Fut S w S' w' → R S' w'
theorem Stab.and {R X : Kn} (h : Stab R) (k : Stab X) : Stab (fun S w => R S w ∧ X S w) := fun _ _ _ _ hx f => ⟨h _ _ _ _ hx.1 f, k _ _ _ _ hx.2 f⟩
theorem Stab.true : Stab (fun _ _ => True) := fun _ _ _ _ _ _ => trivial
structure CtxF (S0 : Nat → Prop) (w0 : World) (S : Nat → Prop) (w : World) (l : List LB) (os : List OR) (R : Kn) : Prop where
  ctx : Ctx S0 w0 S w l
  own : Owns S w0.heap.size w l os
  row : R S w
  stab : Stab R
section
variable {S0 S S' : Nat → Prop} {w0 w w' : World} {l l' : List LB} {os : List OR} {R : Kn} {n0 : Nat}
theorem Owns.step : ∀ {os : List OR}, Owns S n0 w l os → (∀ o ∈ os, ∀ a, o.A = some a → w'.heap[a.block]? = w.heap[a.block]? ∧ ¬ S' a.block ∧ ∀ x ∈ l', x.1 ≠ a.block) → Owns S' n0 w' l' os
  | [], _, _ => trivial
  | o :: r, ⟨h1, h2, h3⟩, hh =>
    ⟨⟨h1.kept fun a ha => (hh o (List.mem_cons_self ..) a ha).1, fun a ha => (hh o (List.mem_cons_self ..) a ha).2⟩, h2, h3.step fun p hp => hh p (List.mem_cons_of_mem _ hp)⟩
theorem Owns.mem : ∀ {os : List OR}, Owns S n0 w l os → ∀ o ∈ os, Own S n0 w l o.e o.sz o.A o.n o.cap o.xs
  | o :: r, ⟨h1, h2, h3⟩, p, hp => by
    cases hp with
    | head => exact h1
    | tail _ h => exact h3.mem p h
theorem CtxF.below (hc : CtxF S0 w0 S w l os R) : Below w0.heap.size w0 w := hc.ctx.below
theorem CtxF.start (w0 : World) (S0 : Nat → Prop) (h : ∀ b, S0 b → b < w0.heap.size) {R : Kn} (hr : R S0 w0) (hs : Stab R) : CtxF S0 w0 S0 w0 [] [] R := ⟨Ctx.start w0 S0 h, trivial, hr, hs⟩
theorem CtxF.loc (hc : CtxF S0 w0 S w l os R) {cs : List Value} {T g : Nat} (hN : New w cs T g w') : CtxF S0 w0 S w' ((g, T, cs) :: l) os R ∧ Fut S w S w' := by
  obtain ⟨h1, h2⟩ := hc.ctx.loc hN
  refine ⟨⟨h1, hc.own.step fun o ho a ha => ?_, hc.stab _ _ _ _ hc.row h2, hc.stab⟩, h2⟩
  have hO := hc.own.mem o ho
  refine ⟨hN.below.block _ (hO.lt ha).2, (hO.out a ha).1, fun x hx => ?_⟩
  cases hx with
  | head => have := (hO.lt ha).2; have := hN.1; show g ≠ a.block; omega
  | tail _ hx => exact (hO.out a ha).2 x hx
theorem CtxF.quiet (hc : CtxF S0 w0 S w l os R) (hb : Below w.heap.size w w') : CtxF S0 w0 S w' l os R ∧ Fut S w S w' := by
  obtain ⟨h1, h2⟩ := hc.ctx.quiet hb
  exact ⟨⟨h1, hc.own.step fun o ho a ha => ⟨hb.block _ ((hc.own.mem o ho).lt ha).2, (hc.own.mem o ho).out a ha⟩, hc.stab _ _ _ _ hc.row h2, hc.stab⟩, h2⟩
theorem CtxF.call (hc : CtxF S0 w0 S w l os R) (hb : Below w.heap.size w w') : CtxF S0 w0 (ext S w w') w' l os R ∧ Fut S w (ext S w w') w' := by
  obtain ⟨h1, h2⟩ := hc.ctx.call hb
  refine ⟨⟨h1, hc.own.step fun o ho a ha => ⟨hb.block _ ((hc.own.mem o ho).lt ha).2, fun hs => ?_, ((hc.own.mem o ho).out a ha).2⟩, hc.stab _ _ _ _ hc.row h2, hc.stab⟩, h2⟩
  rcases hs with hs | hs
  · exact ((hc.own.mem o ho).out a ha).1 hs
  · have := ((hc.own.mem o ho).lt ha).2; omega
theorem CtxF.know (hc : CtxF S0 w0 S w l os R) {X : Kn} (h : X S w) (hs : Stab X) : CtxF S0 w0 S w l os (fun S w => R S w ∧ X S w) := ⟨hc.ctx, hc.own, ⟨hc.row, h⟩, hc.stab.and hs⟩
theorem CtxF.now (hc : CtxF S0 w0 S w l os R) {X : Kn} (h : R S w → X S w) (hs : Stab X) : CtxF S0 w0 S w l os X := ⟨hc.ctx, hc.own, h hc.row, hs⟩
theorem CtxF.blk (hc : CtxF S0 w0 S w l os R) (k : Nat) {g T : Nat} {cs : List Value} (h : l[k]? = some (g, T, cs)) : Blk w g T cs := hc.ctx.blk k h
theorem CtxF.cell (hc : CtxF S0 w0 S w l os R) (k : Nat) {g T : Nat} {cs : List Value} (h : l[k]? = some (g, T, cs)) (i : Nat) {v : Value} (hv : cs[i]? = some v) : w.cell? ⟨g, i, none⟩ = some v := hc.ctx.cell k h i hv
theorem CtxF.cells (hc : CtxF S0 w0 S w l os R) (k : Nat) {g T : Nat} {cs : List Value} (h : l[k]? = some (g, T, cs)) : Go.Vc.cellsAt w ⟨g, 0, none⟩ cs 0 := hc.ctx.cells k h
theorem CtxF.cellsAt (hc : CtxF S0 w0 S w l os R) (k : Nat) {g T : Nat} {cs : List Value} (h : l[k]? = some (g, T, cs)) (o : Nat) (xs : List Value) (hx : (cs.drop o).take xs.length = xs) : Go.Vc.cellsAt w ⟨g, o, none⟩ xs 0 := hc.ctx.cellsAt k h o xs hx
theorem CtxF.may (hc : CtxF S0 w0 S w l os R) (k : Nat) {g T : Nat} {cs : List Value} (h : l[k]? = some (g, T, cs)) (o : Nat) (xs : List Value) (hl : o + xs.length ≤ cs.length) (h1 : allOne xs = true) : mayStore w ⟨g, o, none⟩ xs 0 := hc.ctx.may k h o xs hl h1
theorem CtxF.set (hc : CtxF S0 w0 S w l os R) (k : Nat) {g T : Nat} {cs : List Value} (h : l[k]? = some (g, T, cs)) {o : Nat} {xs : List Value} (hS : Stored w ⟨g, o, none⟩ xs w') :
    CtxF S0 w0 S w' (setLoc l k (putAt cs o xs)) os R ∧ Fut S w S w' := by
  obtain ⟨h1, h2⟩ := hc.ctx.set k h hS
  refine ⟨⟨h1, hc.own.step fun p hp a ha => ?_, hc.stab _ _ _ _ hc.row h2, hc.stab⟩, h2⟩
  have hO := (hc.own.mem p hp).set hc.ctx k h hS
  obtain ⟨_, k2, _⟩ := stored_blk o xs w 0 cs (hc.blk k h)
  rw [← (show w' = _ from hS)] at k2
  exact ⟨k2 _ fun e => ((hc.own.mem p hp).out a ha).2 _ (List.mem_of_getElem? h) e.symm, hO.out a ha⟩
theorem CtxF.drop {x : LB} (h : CtxF S0 w0 S w (x :: l) os R) : CtxF S0 w0 S w l os R :=
  ⟨h.ctx.drop, h.own.step fun o ho a ha => ⟨rfl, ((h.own.mem o ho).out a ha).1, fun y hy => ((h.own.mem o ho).out a ha).2 y (List.mem_cons_of_mem _ hy)⟩, h.row, h.stab⟩
theorem CtxF.drew (hc : CtxF S0 w0 S w l os R) : CtxF S0 w0 S w.drew l os R :=
  ⟨hc.ctx.drew, hc.own.step fun o ho a ha => ⟨rfl, (hc.own.mem o ho).out a ha⟩, hc.stab _ _ _ _ hc.row ⟨fun _ h => h, fun _ _ => rfl⟩, hc.stab⟩
theorem CtxF.hold (hc : CtxF S0 w0 S w l os R) {e sz n cap : Nat} {A : Option Addr} {xs : List Value} (ho : Own S w0.heap.size w l e sz A n cap xs) (hd : ∀ p ∈ os, ∀ a b, A = some a → p.A = some b → a.block ≠ b.block) : CtxF S0 w0 S w l (⟨e, sz, A, n, cap, xs⟩ :: os) R :=
  ⟨hc.ctx, ⟨ho, hd, hc.own⟩, hc.row, hc.stab⟩
theorem CtxF.nil (hc : CtxF S0 w0 S w l os R) (e sz : Nat) : CtxF S0 w0 S w l (⟨e, sz, none, 0, 0, []⟩ :: os) R := hc.hold Own.nil (fun p hp a b h => by cases h)
theorem CtxF.fst {o : OR} (hc : CtxF S0 w0 S w l (o :: os) R) : Own S w0.heap.size w l o.e o.sz o.A o.n o.cap o.xs := hc.own.1
theorem CtxF.rest {o : OR} (hc : CtxF S0 w0 S w l (o :: os) R) : CtxF S0 w0 S w l os R := ⟨hc.ctx, hc.own.2.2, hc.row, hc.stab⟩
theorem CtxF.swap {o p : OR} (hc : CtxF S0 w0 S w l (o :: p :: os) R) : CtxF S0 w0 S w l (p :: o :: os) R := by
  obtain ⟨h1, h2, h3, h4, h5⟩ := hc.own
  refine ⟨hc.ctx, ⟨h3, fun q hq a b ha hb => ?_, h1, fun q hq => h2 q (List.mem_cons_of_mem _ hq), h5⟩, hc.row, hc.stab⟩
  cases hq with
  | head => exact fun e => h2 p (List.mem_cons_self ..) b a hb ha e.symm
  | tail _ hq => exact h4 q hq a b ha hb
theorem CtxF.fresh (hc : CtxF S0 w0 S w l os R) {e sz n cap : Nat} {A : Option Addr} {xs : List Value} (hb : Below w.heap.size w w') (ho : w'.ownsRow w.heap.size e sz (.slice A n cap) n xs) :
    CtxF S0 w0 S w' l (⟨e, sz, A, n, cap, xs⟩ :: os) R := by
  obtain ⟨h1, h2, h3⟩ := hc.ctx.fresh hb ho
  refine (hc.quiet hb).1.hold h3 fun p hp a b ha hb' e1 => ?_
  subst ha
  have := (ho.lt a.block rfl).1
  have := ((hc.own.mem p hp).lt hb').2
  omega
theorem CtxF.told {o : OR} (hc : CtxF S0 w0 S w l (o :: os) R) : ∃ S' : Nat → Prop, (∀ b, S b → S' b) ∧ CtxF S0 w0 S' w l os (fun S w => R S w ∧ Row S w o.A o.n o.cap o.xs) := by
  obtain ⟨h1, h2, h3⟩ := hc.fst.told hc.ctx
  refine ⟨_, fun b hb => .inl hb, h1, hc.own.2.2.step fun p hp a ha => ⟨rfl, ?_, ((hc.own.2.2.mem p hp).out a ha).2⟩, ⟨hc.stab _ _ _ _ hc.row h2, h3 hc.fst.fit.1 hc.fst.fit.2⟩, hc.stab.and fun _ _ _ _ h f => h.fut f⟩
  rintro (hs | ⟨b, hb, e⟩)
  · exact ((hc.own.2.2.mem p hp).out a ha).1 hs
  · exact hc.own.2.1 p hp b a hb ha e
theorem CtxF.opened {e sz n cap : Nat} {A : Option Addr} {xs : List Value} (hc : CtxF S0 w0 S w l (⟨e, sz, A, n, cap, xs⟩ :: os) R) {a : Addr} (hA : A = some a) :
    ∃ g cur, A = some ⟨g, 0, none⟩ ∧ CtxF S0 w0 S w ((g, e, cur) :: l) os R ∧ cur.length = cap * sz ∧ cur.take (n * sz) = xs ∧ n ≤ cap ∧ cap ≤ maxLen := by
  obtain ⟨g, cur, e1, h1, h2⟩ := hc.fst.opened hc.ctx hA
  have e1 : A = some ⟨g, 0, none⟩ := e1
  refine ⟨g, cur, e1, ⟨h1, hc.own.2.2.step fun p hp b hb => ⟨rfl, ((hc.own.2.2.mem p hp).out b hb).1, fun x hx => ?_⟩, hc.row, hc.stab⟩, h2⟩
  cases hx with
  | head => exact hc.own.2.1 p hp _ b e1 hb
  | tail _ hx => exact ((hc.own.2.2.mem p hp).out b hb).2 x hx
theorem CtxF.closed {e g : Nat} {cur : List Value} (hc : CtxF S0 w0 S w ((g, e, cur) :: l) os R) (sz n cap : Nat) (h1 : n ≤ cap) (h2 : cap ≤ maxLen) (h3 : cur.length = cap * sz) :
    CtxF S0 w0 S w l (⟨e, sz, some ⟨g, 0, none⟩, n, cap, cur.take (n * sz)⟩ :: os) R := by
  obtain ⟨k1, k2⟩ := Ctx.closed hc.ctx sz n cap h1 h2 h3
  refine hc.drop.hold k2 fun p hp a b ha hb e1 => ?_
  cases ha
  exact ((hc.own.mem p hp).out b hb).2 _ (List.mem_cons_self ..) e1
theorem CtxF.made (hc : CtxF S0 w0 S w l os R) {cs : List Value} {e g : Nat} (hN : New w cs e g w') (sz n : Nat) (h : cs.length = n * sz) (hn : n ≤ maxLen) : CtxF S0 w0 S w' l (⟨e, sz, some ⟨g, 0, none⟩, n, n, cs⟩ :: os) R := by
  have h4 := (hc.loc hN).1.closed sz n n (Nat.le_refl _) hn h
  rw [List.take_of_length_le (Nat.le_of_eq h)] at h4
  exact h4
theorem CtxF.out (hc : CtxF S0 w0 S w l os R) : R (ext S0 w0 w) w := hc.stab _ _ _ _ hc.row hc.ctx.out
theorem CtxF.old (hc : CtxF S0 w0 S w l os R) {X : Kn} (hs : Stab X) (h : X S0 w0) (hlt : ∀ b, S0 b → b < w0.heap.size) : X S w := hs _ _ _ _ h ⟨hc.ctx.sub, fun b hb => hc.below.block b (hlt b hb)⟩
def Oth (S : Nat → Prop) (os : List OR) : Nat → Prop := fun b => S b ∨ ∃ p ∈ os, ∃ a, p.A = some a ∧ a.block = b
theorem CtxF.others {o : OR} (hc : CtxF S0 w0 S w l (o :: os) R) : Ctx S0 w0 (Oth S os) w l ∧ Own (Oth S os) w0.heap.size w l o.e o.sz o.A o.n o.cap o.xs := by
  obtain ⟨h1, h2, h3⟩ := hc.own
  refine ⟨⟨hc.below, fun b hb => .inl (hc.ctx.sub b hb), fun b hb => ?_, fun b hb => ?_, hc.ctx.locs.mono (fun _ _ => rfl) (fun x hx hs => ?_)⟩, h1.row, fun a ha => ⟨fun hs => ?_, (h1.out a ha).2⟩⟩
  · rcases hb with hb | ⟨p, hp, a, ha, rfl⟩
    · exact hc.ctx.new b hb
    · exact .inr ((h3.mem p hp).lt ha).1
  · rcases hb with hb | ⟨p, hp, a, ha, rfl⟩
    · exact hc.ctx.lt b hb
    · exact ((h3.mem p hp).lt ha).2
  · rcases hs with hs | ⟨p, hp, a, ha, e1⟩
    · exact hs
    · exact absurd e1.symm (((h3.mem p hp).out a ha).2 x hx)
  · rcases hs with hs | ⟨p, hp, b, hb, e1⟩
    · exact (h1.out a ha).1 hs
    · exact h2 p hp a b ha hb e1.symm
theorem CtxF.back {o o' : OR} (hc : CtxF S0 w0 S w l (o :: os) R) (h1 : Ctx S0 w0 (Oth S os) w' l') (h2 : Fut (Oth S os) w (Oth S os) w') (h3 : Own (Oth S os) w0.heap.size w' l' o'.e o'.sz o'.A o'.n o'.cap o'.xs) (hl : ∀ x ∈ l', ∃ y ∈ l, y.1 = x.1) :
    CtxF S0 w0 S w' l' (o' :: os) R := by
  have hlo : ∀ x ∈ l', ∀ a : Addr, (∀ y ∈ l, y.1 ≠ a.block) → x.1 ≠ a.block := fun x hx a h => by
    obtain ⟨y, hy, e⟩ := hl x hx
    rw [← e]; exact h y hy
  refine ⟨⟨h1.below, hc.ctx.sub, hc.ctx.new, fun b hb => h1.lt b (.inl hb), h1.locs.mono (fun _ _ => rfl) (fun _ _ h => .inl h)⟩, ⟨⟨h3.row, fun a ha => ⟨fun hs => (h3.out a ha).1 (.inl hs), (h3.out a ha).2⟩⟩, fun p hp a b ha hb e1 => (h3.out a ha).1 (.inr ⟨p, hp, b, hb, e1.symm⟩), ?_⟩, ?_, hc.stab⟩
  · exact hc.own.2.2.step fun p hp b hb => ⟨h2.2 _ (.inr ⟨p, hp, b, hb, rfl⟩), ((hc.own.2.2.mem p hp).out b hb).1, fun x hx => hlo x hx b ((hc.own.2.2.mem p hp).out b hb).2⟩
  · exact hc.stab _ _ _ _ hc.row ⟨fun _ h => h, fun b hb => h2.2 b (.inl hb)⟩
end
section
variable {P : Program} {S0 S : Nat → Prop} {w0 w : World} {l : List LB} {os : List OR} {R : Kn} {n : Nat} {args : List Value} {K : Value → World → Prop}
section
variable {e sz bytes : Nat} {A B : Option Addr} {m cap c : Nat} {xs ys : List Value} {z : Value}
theorem app_ownF {t T : Nat} {cs : Array Bool} (ht : P.underlying t = some (.slice e)) (hi : (P.info? e).map (fun i => (i.zero, i.size, i.bytes)) = some (some z, sz, bytes)) (hzs : z.cells.size = sz) (hsz : 0 < sz)
    (hc : CtxF S0 w0 S w l (⟨e, sz, A, n, cap, xs⟩ :: os) R) {ad : Addr} (hl : ys.length = m * sz) (hy : Go.Vc.cellsAt w ad ys 0) (h1 : allOne ys = true) (h63 : n + m ≤ 34359738368) (hby : bytes ≤ 4096)
    {x y : Value} (ex : x = .slice A n cap) (ey : y = .slice (some ad) m c)
    (k : ∀ A' cap' w', CtxF S0 w0 S w' l (⟨e, sz, A', n + m, cap', xs ++ ys⟩ :: os) R → K (.slice A' (n + m) cap') w') :
    ∃ v w', (builtin .append #[t, t] T cs #[x, y]).run P w = .ok (.value v) w' ∧ K v w' := by
  subst ex
  subst ey
  obtain ⟨hc', ho'⟩ := hc.others
  refine app_own ht hi hzs hsz hc' ho' hl hy h1 h63 hby fun A' cap' w' h2 h3 h4 _ => k A' cap' w' ?_
  exact hc.back h2 h3 (o' := ⟨e, sz, A', n + m, cap', xs ++ ys⟩) h4 fun x hx => ⟨x, hx, rfl⟩
end
end
end Go.Vc
end
namespace Go.Proofs.YtokglimimnelaaaGreatDoor
open Go.Vc Go.RowKit Go.Fl
set_option maxRecDepth 100000
theorem doK_eq (l : List Ent) (seq : Int) (d : D) (has : Bool) (e : Ent) (h1 : (entAt l d.key).isSome = has) (h2 : (entAt l d.key).getD ⟨d.key, []⟩ = e) :
    doK l seq d = if d.kind == 3 then purgeK l (posK l d.key) e d.ver else if d.kind == 1 && !holdsE e d.cond d.tag then (l, ⟨9, 0⟩) else if d.kind == 2 && !has then (l, ⟨6, 0⟩)
      else if 12 ≤ e.vs.length || (!has && decide (40 ≤ l.length)) then (l, ⟨5, 0⟩) else (putK l d.key has [⟨e.key, e.vs ++ [⟨seq, d.kind == 2, d.body⟩]⟩], ⟨0, seq⟩) := by
  unfold doK
  simp only [h1, h2]
  cases hk : (d.kind == 3)
  · rfl
  · cases has with
    | true =>
      unfold purgeK putK
      cases idxV e.vs d.ver <;> rfl
    | false =>
      cases he : entAt l d.key with
      | some x => rw [he] at h1; cases h1
      | none =>
        rw [he] at h2
        subst h2
        rfl
theorem Row.cutS {S : Nat → Prop} {w : World} {A : Option Addr} {n cap : Nat} {xs : List Value} (h : Row S w A n cap xs) : Row (fun b => S b ∧ b < w.heap.size) w A n cap xs :=
  ⟨h.1, h.2.1, fun hx => by
    obtain ⟨ad, e, hs, hc⟩ := h.2.2 hx
    refine ⟨ad, e, ⟨hs, ?_⟩, hc⟩
    cases xs with
    | nil => exact absurd rfl hx
    | cons v r =>
      have h0 := hc 0 v rfl
      have := World.block_lt_of_cell? w _ h0
      rwa [add_block] at this⟩
theorem ext_cut {S : Nat → Prop} {w w' : World} : ∀ b, ext (fun b => S b ∧ b < w.heap.size) w w' b → ext S w w' b := fun b h => by
  rcases h with h | h
  · exact .inl h.1
  · exact .inr h
theorem RepEs.cutS {S : Nat → Prop} {w : World} {l : List Ent} {css : List (List Value)} (h : RepEs S w l css) : RepEs (fun b => S b ∧ b < w.heap.size) w l css := h.map (fun h => Row.cutS h)
theorem RepEs.wide {S S' : Nat → Prop} {w : World} {l : List Ent} {css : List (List Value)} (h : RepEs S w l css) (f : ∀ b, S b → S' b) : RepEs S' w l css := h.map (fun h => h.wide f)
theorem RepEs.fut {S S' : Nat → Prop} {w w' : World} {l : List Ent} {css : List (List Value)} (h : RepEs S w l css) (f : Fut S w S' w') : RepEs S' w' l css := h.map (fun h => h.fut f)
theorem RetK.wide {s : Stt} {B : Option Addr} {cap' : Nat} {l0 l1 l2 l3 l4 : Int} {S : Nat → Prop} {q : List Ent × Res} {w w' : World} {en : Ending} (h : RetK s B cap' l0 l1 l2 l3 l4 (fun b => S b ∧ b < w.heap.size) q w en w') : RetK s B cap' l0 l1 l2 l3 l4 S q w en w' := by
  obtain ⟨A, c, css, h1, h2, h3, h4⟩ := h
  exact ⟨A, c, css, h1, h2, h3.wide ext_cut, h4.wide ext_cut⟩
theorem posK_le : ∀ (l : List Ent) (k : ByteArray), posK l k ≤ l.length
  | [], _ => Nat.le_refl _
  | e :: r, k => by
    rw [posK]
    split
    · exact Nat.succ_le_succ (posK_le r k)
    · exact Nat.zero_le _
theorem RepEs.stab (l : List Ent) (css : List (List Value)) : Stab (fun S w => RepEs S w l css) := fun _ _ _ _ h f => RepEs.fut h f
def know0 (l : List Ent) (css : List (List Value)) (A : Option Addr) (cap : Nat) : Kn := fun S w => RepEs S w l css ∧ Row S w A l.length cap css.flatten
theorem know0_stab (l : List Ent) (css : List (List Value)) (A : Option Addr) (cap : Nat) : Stab (know0 l css A cap) := fun _ _ _ _ h f => ⟨RepEs.fut h.1 f, h.2.fut f⟩
set_option maxHeartbeats 4000000 in
theorem doK_none (s : Stt) (d : D) (A B : Option Addr) (cap cap' : Nat) (l0 l1 l2 l3 l4 : Int) (el : s.lows = [l0, l1, l2, l3, l4]) (css : List (List Value)) (S : Nat → Prop) (w : World) (hlt : ∀ b, S b → b < w.heap.size) (hE : RepEs S w s.l css) (hR : Row S w A s.l.length cap css.flatten) (hM : Row S w B s.ms.length cap' (s.ms.map memC).flatten)
    (hn : s.l.length ≤ 1000000) (hp : s.l.Pairwise (fun a b => strLt a.key b.key = true)) (hok : ∀ e ∈ s.l, e.vs.length ≤ 1000000 ∧ (e.vs.length ≠ 0 → (lastV e.vs).ver < s.seq) ∧ (nowE e).1.body.size ≤ maxLen) (hq : entAt s.l d.key = none) :
    Calls Tryz.prog 134 #[.agg (stC s A cap B cap' l0 l1 l2 l3 l4).toArray, .agg (dC d).toArray] w (RetK s B cap' l0 l1 l2 l3 l4 S (doK s.l s.seq d) w) := by
  have hrep : RepS S w s (stC s A cap B cap' l0 l1 l2 l3 l4) := ⟨A, cap, css, B, cap', by rw [el]; rfl, by rw [el]; rfl, hE, hR, hM⟩
  have hRm := row_max hR
  refine calls_vc lay_ok Tryz.func134 rfl (by kernel_rfl) (by kernel_rfl) ?_
  intro g2 w1 h1
  have hc := ((CtxF.start w S hlt (R := know0 s.l css A cap) ⟨hE, hR⟩ (know0_stab _ _ _ _)).loc h1).1
  intro g3 w2 h2
  have hc := (hc.loc h2).1
  intro g4 w3 h3
  have hc := (hc.loc h3).1
  intro g5 w4 h4
  have hc := (hc.loc h4).1
  refine ⟨_, ?_, hc.cells 3 rfl, ?_⟩
  · rfl
  refine ⟨_, hc.cell 2 rfl _ rfl, ?_⟩
  have hfind := find_any s d.key hp hn _ S w4 (hrep.below hc.below)
  rw [hq] at hfind
  refine call_b hfind ?_
  clear hfind
  intro w5 h5
  have hc := (hc.quiet h5).1
  refine ⟨_, hc.cell 2 rfl _ rfl, ?_⟩
  intro g8 w6 h6
  have hc := (hc.loc h6).1
  refine ⟨hc.may 0 rfl _ _ (Nat.le_refl 2) rfl, ?_⟩
  intro w7 h7
  have hc := (hc.set 0 rfl h7).1
  have hD := doK_eq s.l s.seq d
  rw [hq] at hD
  obtain ⟨e, he⟩ : ∃ e : Ent, e = ⟨d.key, []⟩ := ⟨_, rfl⟩
  have hD := hD false e rfl (by rw [he]; rfl)
  have hev : e.vs = [] := by rw [he]
  have heb : (nowE e).1.body.size ≤ maxLen := by rw [he]; exact Nat.zero_le _
  have hRe : Row S w none 0 0 (([] : List Ver).map verC).flatten := ⟨Nat.le_refl _, Nat.zero_le _, fun h => absurd rfl h⟩
  obtain ⟨A1, cap1, hRe, hc⟩ : ∃ (A1 : Option Addr) (cap1 : Nat), Row S w A1 e.vs.length cap1 (e.vs.map verC).flatten ∧ CtxF S w S w7 [(g8, 50, [.string e.key, .slice A1 e.vs.length cap1]), (g5, 54, [.int .i64 0, .int .i64 0]), (g4, 43, (lay.ty 43).zero), (g3, 32, dC d), (g2, 43, stC s A cap B cap' l0 l1 l2 l3 l4)] [] (know0 s.l css A cap) := ⟨none, 0, by rw [hev]; exact hRe, by rw [he]; exact hc⟩
  have hel : e.vs.length ≤ 1000000 := by rw [hev]; exact Nat.zero_le _
  have h12 : ¬ 12 ≤ e.vs.length := by rw [hev]; decide
  refine ⟨_, hc.cell 0 rfl _ rfl, ?_⟩
  refine split_f (decide_eq_false (show ¬ (12 : Int) ≤ (e.vs.length : Int) by omega)) ?_
  refine ⟨_, hc.cell 4 rfl _ rfl, ?_⟩
  refine ⟨_, hc.cell 4 rfl _ rfl, ?_⟩
  refine ⟨_, hc.cell 3 rfl _ rfl, ?_⟩
  refine ⟨_, hc.cell 3 rfl _ rfl, ?_⟩
  intro g10 w10 h10
  have hc := (hc.loc h10).1
  refine ⟨hc.may 0 rfl _ _ (Nat.le_refl 3) rfl, ?_⟩
  intro w11 h11
  have hc := (hc.set 0 rfl h11).1
  refine ⟨_, hc.cell 4 rfl _ rfl, ?_⟩
  cases k3 : (d.kind == 3)
  rotate_left
  · refine split_t k3 ?_
    rw [show doK s.l s.seq d = purgeK s.l (posK s.l d.key) e d.ver by rw [hD, k3]; rfl]
    refine ⟨_, ?_, hc.cells 5 rfl, ?_⟩
    · rfl
    refine ⟨_, ?_, hc.cells 1 rfl, ?_⟩
    · rfl
    refine ⟨_, hc.cell 4 rfl _ rfl, ?_⟩
    refine ⟨(purgeK_any s A B cap cap' l0 l1 l2 l3 l4 css S w11 (hE.below hc.below) (hR.below hc.below) hn (posK s.l d.key) e A1 cap1 (hRe.below hc.below) hel d.ver (fun h => by rw [hev] at h; cases h)).mono fun en w12 hq => ?_⟩
    obtain ⟨A5, c5, css5, e5, h12, hE5, hR5⟩ := hq
    have hc := (hc.call h12).1.know (X := fun S w => RepEs S w (purgeK s.l (posK s.l d.key) e d.ver).1 css5 ∧ Row S w A5 (purgeK s.l (posK s.l d.key) e d.ver).1.length c5 css5.flatten) ⟨hE5, hR5⟩ (fun _ _ _ _ h f => ⟨RepEs.fut h.1 f, h.2.fut f⟩)
    refine ⟨_, e5, ?_⟩
    refine ⟨hc.may 3 rfl 0 _ (nle rfl) rfl, ?_⟩
    intro w20 h20
    have hc := (hc.set 3 rfl h20).1
    refine ⟨hc.may 2 rfl 0 _ (nle rfl) rfl, ?_⟩
    intro w21 h21
    have hc := (hc.set 2 rfl h21).1
    refine ⟨_, ?_, hc.cells 3 rfl, ?_⟩
    · rfl
    refine ⟨_, ?_, hc.cells 2 rfl, ?_⟩
    · rfl
    exact ⟨A5, c5, css5, rfl, hc.below, hc.out.2.1, hc.out.2.2⟩
  refine split_f k3 ?_
  refine ⟨_, hc.cell 4 rfl _ rfl, ?_⟩
  cases k1 : (d.kind == 1)
  · refine split_f k1 ?_
    have hH : (d.kind == 1 && !holdsE e d.cond d.tag) = false := by rw [k1]; rfl
    cases k2 : (d.kind == 2)
    · skip
      refine ⟨_, hc.cell 4 rfl _ rfl, ?_⟩
      refine split_f k2 ?_
      have hN : (d.kind == 2 && !false) = false := by rw [k2]; rfl
      rcases Nat.lt_or_ge s.l.length 40 with h40 | h40
      rotate_left
      · refine split_t (decide_eq_true (show (40 : Int) ≤ (s.l.length : Int) by omega)) ?_
        rw [show doK s.l s.seq d = (s.l, ⟨5, 0⟩) by rw [hD, k3, hH, hN, decide_eq_true h40, Bool.not_false, Bool.true_and, Bool.or_true]; rfl]
        refine ⟨_, ?_, hc.cells 5 rfl, ?_⟩
        · rfl
        refine ⟨hc.may 3 rfl 0 _ (nle rfl) rfl, ?_⟩
        intro w20 h20
        have hc := (hc.set 3 rfl h20).1
        refine ⟨hc.may 2 rfl 0 _ (nle rfl) rfl, ?_⟩
        intro w21 h21
        have hc := (hc.set 2 rfl h21).1
        refine ⟨_, ?_, hc.cells 3 rfl, ?_⟩
        · rfl
        refine ⟨_, ?_, hc.cells 2 rfl, ?_⟩
        · rfl
        exact ⟨A, cap, css, rfl, hc.below, hc.out.1, hc.out.2⟩
      refine split_f (decide_eq_false (show ¬ (40 : Int) ≤ (s.l.length : Int) by omega)) ?_
      have ek : doK s.l s.seq d = (putK s.l d.key false [⟨e.key, e.vs ++ [⟨s.seq, d.kind == 2, d.body⟩]⟩], ⟨0, s.seq⟩) := by rw [hD, k3, hH, hN, decide_eq_false (show ¬ 40 ≤ s.l.length by omega), decide_eq_false h12]; rfl
      have hadd : addE e ⟨s.seq, d.kind == 2, d.body⟩ = (⟨e.key, e.vs ++ [⟨s.seq, d.kind == 2, d.body⟩]⟩, true) := by
        rw [addE, if_neg]
        rintro (h' | h')
        · exact absurd (by rw [hev]; rfl) h'.1
        · omega
      obtain ⟨vs, hvs⟩ : ∃ vs : List Ver, vs = e.vs ++ [⟨s.seq, d.kind == 2, d.body⟩] := ⟨_, rfl⟩
      rw [← hvs] at hadd ek
      clear hvs
      rw [ek]
      clear ek
      refine ⟨_, ?_, hc.cells 1 rfl, ?_⟩
      · rfl
      refine ⟨_, ?_, hc.cells 0 rfl, ?_⟩
      · rfl
      refine ⟨(add_any e ⟨s.seq, d.kind == 2, d.body⟩ A1 cap1 hel S _ (hRe.below hc.below)).mono fun en w13 hq => ?_⟩
      rw [hadd] at hq
      obtain ⟨A2, cap2, e1, h13, ho⟩ := hq
      simp only at e1 ho
      have hc := hc.fresh h13 ho
      obtain ⟨S1, hs1, hc⟩ := hc.told
      refine ⟨_, e1, ?_⟩
      refine ⟨hc.may 1 rfl 0 _ (Nat.le_refl 2) rfl, ?_⟩
      intro w14 h14
      have hc := (hc.set 1 rfl h14).1
      refine ⟨_, hc.cell 5 rfl _ rfl, ?_⟩
      refine ⟨(cloneE_any A s.l.length cap css hE.flat hE.len hn S w14 (hR.below hc.below)).mono fun en w15 hq => ?_⟩
      obtain ⟨A3, cap3, e3, h15, ho⟩ := hq
      have hc := hc.fresh h15 ho
      refine ⟨_, e3, ?_⟩
      refine ⟨hc.may 5 rfl _ _ (nle rfl) rfl, ?_⟩
      intro w16 h16
      have hc := (hc.set 5 rfl h16).1
      refine ⟨_, hc.cell 5 rfl _ rfl, ?_⟩
      refine ⟨_, ?_, hc.cells 1 rfl, ?_⟩
      · rfl
      intro g17 w17 h17
      have hc := (hc.loc h17).1
      have hcel := hE.len
      obtain ⟨hcx, hox⟩ := hc.others
      have hd := insertE_any hcx css hE.flat (by rw [hcel]; exact hn) (A := A3) (cap := cap3) (by rw [hcel]; exact hox) (posK s.l d.key) (by rw [hcel]; exact posK_le _ _) 0 g17 [.string e.key, .slice A2 vs.length cap2] rfl rfl rfl
      rw [hcel] at hd
      refine ⟨hd.mono fun en w18 hq => ?_⟩
      obtain ⟨A4, cap4, e4, hcx, hfx, hox⟩ := hq
      have hc := hc.back (o' := ⟨50, 2, A4, s.l.length + 1, cap4, (css.take (posK s.l d.key)).flatten ++ [.string e.key, .slice A2 vs.length cap2] ++ (css.drop (posK s.l d.key)).flatten⟩) hcx hfx hox (fun x hx => ⟨x, hx, rfl⟩)
      refine ⟨_, e4, ?_⟩
      refine ⟨hc.may 6 rfl _ _ (nle rfl) rfl, ?_⟩
      intro w19 h19
      have hc := (hc.set 6 rfl h19).1.drop
      obtain ⟨S2, hs2, hc⟩ := hc.told
      refine drawn lay_ok (by kernel_rfl) (.q 0 (.q 1 (.q 2 (.q 3 (.n 4 (.z 5) .stop))))) (fun x => Blk x g2 43 _) (by kernel_rfl) (hc.blk 5 rfl) ?_
      have hc := hc.drew
      refine ⟨_, ?_, fun x hx => drop_cells hx 0 _ 0 (fun j v hj => by simpa using hj), ?_⟩
      · rfl
      refine ⟨_, fun x hx => hx.cell 0, ?_⟩
      refine ⟨?_, trivial⟩
      refine ⟨hc.may 3 rfl 0 _ (nle rfl) rfl, ?_⟩
      intro w20 h20
      have hc := (hc.set 3 rfl h20).1
      refine ⟨hc.blk 5 rfl, ?_⟩
      refine ⟨hc.may 2 rfl 0 _ (nle rfl) rfl, ?_⟩
      intro w21 h21
      have hc := (hc.set 2 rfl h21).1
      refine ⟨_, ?_, hc.cells 3 rfl, ?_⟩
      · rfl
      refine ⟨_, ?_, hc.cells 2 rfl, ?_⟩
      · rfl
      have ho := hc.out
      have hpe : putK s.l d.key false [⟨e.key, vs⟩] = s.l.take (posK s.l d.key) ++ [⟨e.key, vs⟩] ++ s.l.drop (posK s.l d.key) := rfl
      have hlen : (putK s.l d.key false [⟨e.key, vs⟩]).length = s.l.length + 1 := by
        have := posK_le s.l d.key
        rw [hpe, List.length_append, List.length_append, List.length_take, List.length_drop]; show min (posK s.l d.key) s.l.length + 1 + _ = _; omega
      refine ⟨A4, cap4, css.take (posK s.l d.key) ++ [[.string e.key, .slice A2 vs.length cap2]] ++ css.drop (posK s.l d.key), ?_, hc.below, ?_, ?_⟩
      · simp only [hlen]
        rfl
      · refine ((ho.1.1.1.take _).append ?_).append (ho.1.1.1.drop _)
        exact ⟨_, _, rfl, ⟨A2, cap2, rfl, ho.1.2⟩, rfl⟩
      · simp only [hlen]
        rw [List.flatten_append, List.flatten_append, List.flatten_cons, List.flatten_nil, List.append_nil]
        exact ho.2
    · skip
      refine ⟨_, hc.cell 4 rfl _ rfl, ?_⟩
      refine split_t k2 ?_
      rw [show doK s.l s.seq d = (s.l, ⟨6, 0⟩) by rw [hD, k3, hH, k2]; rfl]
      refine ⟨_, ?_, hc.cells 5 rfl, ?_⟩
      · rfl
      refine ⟨hc.may 3 rfl 0 _ (nle rfl) rfl, ?_⟩
      intro w20 h20
      have hc := (hc.set 3 rfl h20).1
      refine ⟨hc.may 2 rfl 0 _ (nle rfl) rfl, ?_⟩
      intro w21 h21
      have hc := (hc.set 2 rfl h21).1
      refine ⟨_, ?_, hc.cells 3 rfl, ?_⟩
      · rfl
      refine ⟨_, ?_, hc.cells 2 rfl, ?_⟩
      · rfl
      exact ⟨A, cap, css, rfl, hc.below, hc.out.1, hc.out.2⟩
  · refine split_t k1 ?_
    have k2 : (d.kind == 2) = false := by
      have : d.kind = 1 := by simpa using k1
      rw [this]; rfl
    refine ⟨_, ?_, hc.cells 1 rfl, ?_⟩
    · rfl
    refine ⟨_, hc.cell 4 rfl _ rfl, ?_⟩
    refine ⟨_, hc.cell 4 rfl _ rfl, ?_⟩
    refine call_b (holds_any e d.cond d.tag A1 cap1 S w11 (hRe.below hc.below) heb) ?_
    intro w12 h12w
    have hc := (hc.quiet h12w).1
    rcases Bool.eq_false_or_eq_true (holdsE e d.cond d.tag) with hh | hh
    rotate_left
    · refine split_t (by show (!holdsE e d.cond d.tag) = true; rw [hh]; rfl) ?_
      rw [show doK s.l s.seq d = (s.l, ⟨9, 0⟩) by rw [hD, k3, k1, hh]; rfl]
      refine ⟨_, ?_, hc.cells 5 rfl, ?_⟩
      · rfl
      refine ⟨hc.may 3 rfl 0 _ (nle rfl) rfl, ?_⟩
      intro w20 h20
      have hc := (hc.set 3 rfl h20).1
      refine ⟨hc.may 2 rfl 0 _ (nle rfl) rfl, ?_⟩
      intro w21 h21
      have hc := (hc.set 2 rfl h21).1
      refine ⟨_, ?_, hc.cells 3 rfl, ?_⟩
      · rfl
      refine ⟨_, ?_, hc.cells 2 rfl, ?_⟩
      · rfl
      exact ⟨A, cap, css, rfl, hc.below, hc.out.1, hc.out.2⟩
    refine split_f (by show (!holdsE e d.cond d.tag) = false; rw [hh]; rfl) ?_
    have hH : (d.kind == 1 && !holdsE e d.cond d.tag) = false := by rw [hh, Bool.not_true, Bool.and_false]
    refine ⟨_, hc.cell 4 rfl _ rfl, ?_⟩
    refine split_f k2 ?_
    have hN : (d.kind == 2 && !false) = false := by rw [k2]; rfl
    rcases Nat.lt_or_ge s.l.length 40 with h40 | h40
    rotate_left
    · refine split_t (decide_eq_true (show (40 : Int) ≤ (s.l.length : Int) by omega)) ?_
      rw [show doK s.l s.seq d = (s.l, ⟨5, 0⟩) by rw [hD, k3, hH, hN, decide_eq_true h40, Bool.not_false, Bool.true_and, Bool.or_true]; rfl]
      refine ⟨_, ?_, hc.cells 5 rfl, ?_⟩
      · rfl
      refine ⟨hc.may 3 rfl 0 _ (nle rfl) rfl, ?_⟩
      intro w20 h20
      have hc := (hc.set 3 rfl h20).1
      refine ⟨hc.may 2 rfl 0 _ (nle rfl) rfl, ?_⟩
      intro w21 h21
      have hc := (hc.set 2 rfl h21).1
      refine ⟨_, ?_, hc.cells 3 rfl, ?_⟩
      · rfl
      refine ⟨_, ?_, hc.cells 2 rfl, ?_⟩
      · rfl
      exact ⟨A, cap, css, rfl, hc.below, hc.out.1, hc.out.2⟩
    refine split_f (decide_eq_false (show ¬ (40 : Int) ≤ (s.l.length : Int) by omega)) ?_
    have ek : doK s.l s.seq d = (putK s.l d.key false [⟨e.key, e.vs ++ [⟨s.seq, d.kind == 2, d.body⟩]⟩], ⟨0, s.seq⟩) := by rw [hD, k3, hH, hN, decide_eq_false (show ¬ 40 ≤ s.l.length by omega), decide_eq_false h12]; rfl
    have hadd : addE e ⟨s.seq, d.kind == 2, d.body⟩ = (⟨e.key, e.vs ++ [⟨s.seq, d.kind == 2, d.body⟩]⟩, true) := by
      rw [addE, if_neg]
      rintro (h' | h')
      · exact absurd (by rw [hev]; rfl) h'.1
      · omega
    obtain ⟨vs, hvs⟩ : ∃ vs : List Ver, vs = e.vs ++ [⟨s.seq, d.kind == 2, d.body⟩] := ⟨_, rfl⟩
    rw [← hvs] at hadd ek
    clear hvs
    rw [ek]
    clear ek
    refine ⟨_, ?_, hc.cells 1 rfl, ?_⟩
    · rfl
    refine ⟨_, ?_, hc.cells 0 rfl, ?_⟩
    · rfl
    refine ⟨(add_any e ⟨s.seq, d.kind == 2, d.body⟩ A1 cap1 hel S _ (hRe.below hc.below)).mono fun en w13 hq => ?_⟩
    rw [hadd] at hq
    obtain ⟨A2, cap2, e1, h13, ho⟩ := hq
    simp only at e1 ho
    have hc := hc.fresh h13 ho
    obtain ⟨S1, hs1, hc⟩ := hc.told
    refine ⟨_, e1, ?_⟩
    refine ⟨hc.may 1 rfl 0 _ (Nat.le_refl 2) rfl, ?_⟩
    intro w14 h14
    have hc := (hc.set 1 rfl h14).1
    refine ⟨_, hc.cell 5 rfl _ rfl, ?_⟩
    refine ⟨(cloneE_any A s.l.length cap css hE.flat hE.len hn S w14 (hR.below hc.below)).mono fun en w15 hq => ?_⟩
    obtain ⟨A3, cap3, e3, h15, ho⟩ := hq
    have hc := hc.fresh h15 ho
    refine ⟨_, e3, ?_⟩
    refine ⟨hc.may 5 rfl _ _ (nle rfl) rfl, ?_⟩
    intro w16 h16
    have hc := (hc.set 5 rfl h16).1
    refine ⟨_, hc.cell 5 rfl _ rfl, ?_⟩
    refine ⟨_, ?_, hc.cells 1 rfl, ?_⟩
    · rfl
    intro g17 w17 h17
    have hc := (hc.loc h17).1
    have hcel := hE.len
    obtain ⟨hcx, hox⟩ := hc.others
    have hd := insertE_any hcx css hE.flat (by rw [hcel]; exact hn) (A := A3) (cap := cap3) (by rw [hcel]; exact hox) (posK s.l d.key) (by rw [hcel]; exact posK_le _ _) 0 g17 [.string e.key, .slice A2 vs.length cap2] rfl rfl rfl
    rw [hcel] at hd
    refine ⟨hd.mono fun en w18 hq => ?_⟩
    obtain ⟨A4, cap4, e4, hcx, hfx, hox⟩ := hq
    have hc := hc.back (o' := ⟨50, 2, A4, s.l.length + 1, cap4, (css.take (posK s.l d.key)).flatten ++ [.string e.key, .slice A2 vs.length cap2] ++ (css.drop (posK s.l d.key)).flatten⟩) hcx hfx hox (fun x hx => ⟨x, hx, rfl⟩)
    refine ⟨_, e4, ?_⟩
    refine ⟨hc.may 6 rfl _ _ (nle rfl) rfl, ?_⟩
    intro w19 h19
    have hc := (hc.set 6 rfl h19).1.drop
    obtain ⟨S2, hs2, hc⟩ := hc.told
    refine drawn lay_ok (by kernel_rfl) (.q 0 (.q 1 (.q 2 (.q 3 (.n 4 (.z 5) .stop))))) (fun x => Blk x g2 43 _) (by kernel_rfl) (hc.blk 5 rfl) ?_
    have hc := hc.drew
    refine ⟨_, ?_, fun x hx => drop_cells hx 0 _ 0 (fun j v hj => by simpa using hj), ?_⟩
    · rfl
    refine ⟨_, fun x hx => hx.cell 0, ?_⟩
    refine ⟨?_, trivial⟩
    refine ⟨hc.may 3 rfl 0 _ (nle rfl) rfl, ?_⟩
    intro w20 h20
    have hc := (hc.set 3 rfl h20).1
    refine ⟨hc.blk 5 rfl, ?_⟩
    refine ⟨hc.may 2 rfl 0 _ (nle rfl) rfl, ?_⟩
    intro w21 h21
    have hc := (hc.set 2 rfl h21).1
    refine ⟨_, ?_, hc.cells 3 rfl, ?_⟩
    · rfl
    refine ⟨_, ?_, hc.cells 2 rfl, ?_⟩
    · rfl
    have ho := hc.out
    have hpe : putK s.l d.key false [⟨e.key, vs⟩] = s.l.take (posK s.l d.key) ++ [⟨e.key, vs⟩] ++ s.l.drop (posK s.l d.key) := rfl
    have hlen : (putK s.l d.key false [⟨e.key, vs⟩]).length = s.l.length + 1 := by
      have := posK_le s.l d.key
      rw [hpe, List.length_append, List.length_append, List.length_take, List.length_drop]; show min (posK s.l d.key) s.l.length + 1 + _ = _; omega
    refine ⟨A4, cap4, css.take (posK s.l d.key) ++ [[.string e.key, .slice A2 vs.length cap2]] ++ css.drop (posK s.l d.key), ?_, hc.below, ?_, ?_⟩
    · simp only [hlen]
      rfl
    · refine ((ho.1.1.1.take _).append ?_).append (ho.1.1.1.drop _)
      exact ⟨_, _, rfl, ⟨A2, cap2, rfl, ho.1.2⟩, rfl⟩
    · simp only [hlen]
      rw [List.flatten_append, List.flatten_append, List.flatten_cons, List.flatten_nil, List.append_nil]
      exact ho.2
set_option maxHeartbeats 4000000 in
theorem doK_has (s : Stt) (d : D) (A B : Option Addr) (cap cap' : Nat) (l0 l1 l2 l3 l4 : Int) (el : s.lows = [l0, l1, l2, l3, l4]) (css : List (List Value)) (S : Nat → Prop) (w : World) (hlt : ∀ b, S b → b < w.heap.size) (hE : RepEs S w s.l css) (hR : Row S w A s.l.length cap css.flatten) (hM : Row S w B s.ms.length cap' (s.ms.map memC).flatten)
    (hn : s.l.length ≤ 1000000) (hp : s.l.Pairwise (fun a b => strLt a.key b.key = true)) (hok : ∀ e ∈ s.l, e.vs.length ≤ 1000000 ∧ (e.vs.length ≠ 0 → (lastV e.vs).ver < s.seq) ∧ (nowE e).1.body.size ≤ maxLen) (e : Ent) (hq : entAt s.l d.key = some e) :
    Calls Tryz.prog 134 #[.agg (stC s A cap B cap' l0 l1 l2 l3 l4).toArray, .agg (dC d).toArray] w (RetK s B cap' l0 l1 l2 l3 l4 S (doK s.l s.seq d) w) := by
  have hrep : RepS S w s (stC s A cap B cap' l0 l1 l2 l3 l4) := ⟨A, cap, css, B, cap', by rw [el]; rfl, by rw [el]; rfl, hE, hR, hM⟩
  have hRm := row_max hR
  refine calls_vc lay_ok Tryz.func134 rfl (by kernel_rfl) (by kernel_rfl) ?_
  intro g2 w1 h1
  have hc := ((CtxF.start w S hlt (R := know0 s.l css A cap) ⟨hE, hR⟩ (know0_stab _ _ _ _)).loc h1).1
  intro g3 w2 h2
  have hc := (hc.loc h2).1
  intro g4 w3 h3
  have hc := (hc.loc h3).1
  intro g5 w4 h4
  have hc := (hc.loc h4).1
  refine ⟨_, ?_, hc.cells 3 rfl, ?_⟩
  · rfl
  refine ⟨_, hc.cell 2 rfl _ rfl, ?_⟩
  have hfind := find_any s d.key hp hn _ S w4 (hrep.below hc.below)
  rw [hq] at hfind
  refine call_b hfind ?_
  clear hfind
  intro w5 h5
  have hc := (hc.quiet h5).1
  refine ⟨_, hc.cell 2 rfl _ rfl, ?_⟩
  intro g8 w6 h6
  have hc := (hc.loc h6).1
  refine ⟨hc.may 0 rfl _ _ (Nat.le_refl 2) rfl, ?_⟩
  intro w7 h7
  have hc := (hc.set 0 rfl h7).1
  have hD := doK_eq s.l s.seq d
  rw [hq] at hD
  have hD := hD true e rfl rfl
  obtain ⟨hg, _⟩ := entAt_some hq
  have hpl : posK s.l d.key < s.l.length := (List.getElem?_eq_some_iff.1 hg).1
  have hge : s.l[posK s.l d.key] = e := (List.getElem?_eq_some_iff.1 hg).2
  obtain ⟨hel, hev, heb⟩ := hok e (entAt_mem hq)
  refine ⟨_, hc.cell 4 rfl _ rfl, ?_⟩
  obtain ⟨ad, A1, cap1, e1, hcell, hRe⟩ := RowE.elem hR hE (posK s.l d.key) hpl
  have hcell := cellsAt_later hc.below _ _ hcell
  rw [hge] at hcell hRe
  subst e1
  refine ⟨⟨Int.natCast_nonneg _, Int.ofNat_lt.2 hpl⟩, ?_⟩
  refine ⟨[.string e.key, .slice A1 e.vs.length cap1], rfl, hcell, ?_⟩
  refine ⟨hc.may 0 rfl _ _ (Nat.le_refl 2) rfl, ?_⟩
  intro w8 h8
  have hc := (hc.set 0 rfl h8).1
  have hc : CtxF S w S w8 [(g8, 50, [.string e.key, .slice A1 e.vs.length cap1]), (g5, 54, [.int .i64 0, .int .i64 0]), (g4, 43, (lay.ty 43).zero), (g3, 32, dC d), (g2, 43, stC s (some ad) cap B cap' l0 l1 l2 l3 l4)] [] (know0 s.l css (some ad) cap) := hc
  refine ⟨_, hc.cell 0 rfl _ rfl, ?_⟩
  rcases Nat.lt_or_ge e.vs.length 12 with h12' | h12
  rotate_left
  · refine split_t (decide_eq_true (show (12 : Int) ≤ (e.vs.length : Int) by omega)) ?_
    refine ⟨_, hc.cell 4 rfl _ rfl, ?_⟩
    refine ⟨_, hc.cell 3 rfl _ rfl, ?_⟩
    refine ⟨_, hc.cell 3 rfl _ rfl, ?_⟩
    intro g10 w10 h10
    have hc := (hc.loc h10).1
    refine ⟨hc.may 0 rfl _ _ (Nat.le_refl 3) rfl, ?_⟩
    intro w11 h11
    have hc := (hc.set 0 rfl h11).1
    refine ⟨_, hc.cell 4 rfl _ rfl, ?_⟩
    cases k3 : (d.kind == 3)
    rotate_left
    · refine split_t k3 ?_
      rw [show doK s.l s.seq d = purgeK s.l (posK s.l d.key) e d.ver by rw [hD, k3]; rfl]
      refine ⟨_, ?_, hc.cells 5 rfl, ?_⟩
      · rfl
      refine ⟨_, ?_, hc.cells 1 rfl, ?_⟩
      · rfl
      refine ⟨_, hc.cell 4 rfl _ rfl, ?_⟩
      refine ⟨(purgeK_any s (some ad) B cap cap' l0 l1 l2 l3 l4 css S w11 (hE.below hc.below) (hR.below hc.below) hn (posK s.l d.key) e A1 cap1 (hRe.below hc.below) hel d.ver (fun h => hpl)).mono fun en w12 hq => ?_⟩
      obtain ⟨A5, c5, css5, e5, h12, hE5, hR5⟩ := hq
      have hc := (hc.call h12).1.know (X := fun S w => RepEs S w (purgeK s.l (posK s.l d.key) e d.ver).1 css5 ∧ Row S w A5 (purgeK s.l (posK s.l d.key) e d.ver).1.length c5 css5.flatten) ⟨hE5, hR5⟩ (fun _ _ _ _ h f => ⟨RepEs.fut h.1 f, h.2.fut f⟩)
      refine ⟨_, e5, ?_⟩
      refine ⟨hc.may 3 rfl 0 _ (nle rfl) rfl, ?_⟩
      intro w20 h20
      have hc := (hc.set 3 rfl h20).1
      refine ⟨hc.may 2 rfl 0 _ (nle rfl) rfl, ?_⟩
      intro w21 h21
      have hc := (hc.set 2 rfl h21).1
      refine ⟨_, ?_, hc.cells 3 rfl, ?_⟩
      · rfl
      refine ⟨_, ?_, hc.cells 2 rfl, ?_⟩
      · rfl
      exact ⟨A5, c5, css5, rfl, hc.below, hc.out.2.1, hc.out.2.2⟩
    refine split_f k3 ?_
    refine ⟨_, hc.cell 4 rfl _ rfl, ?_⟩
    cases k1 : (d.kind == 1)
    · refine split_f k1 ?_
      have hH : (d.kind == 1 && !holdsE e d.cond d.tag) = false := by rw [k1]; rfl
      cases k2 : (d.kind == 2)
      · skip
        refine ⟨_, hc.cell 4 rfl _ rfl, ?_⟩
        refine split_f k2 ?_
        have hN : (d.kind == 2 && !true) = false := by rw [Bool.not_true, Bool.and_false]
        rw [show doK s.l s.seq d = (s.l, ⟨5, 0⟩) by rw [hD, k3, hH, hN, decide_eq_true h12]; rfl]
        refine ⟨_, ?_, hc.cells 5 rfl, ?_⟩
        · rfl
        refine ⟨hc.may 3 rfl 0 _ (nle rfl) rfl, ?_⟩
        intro w20 h20
        have hc := (hc.set 3 rfl h20).1
        refine ⟨hc.may 2 rfl 0 _ (nle rfl) rfl, ?_⟩
        intro w21 h21
        have hc := (hc.set 2 rfl h21).1
        refine ⟨_, ?_, hc.cells 3 rfl, ?_⟩
        · rfl
        refine ⟨_, ?_, hc.cells 2 rfl, ?_⟩
        · rfl
        exact ⟨(some ad), cap, css, rfl, hc.below, hc.out.1, hc.out.2⟩
      · skip
        refine ⟨_, hc.cell 4 rfl _ rfl, ?_⟩
        refine split_t k2 ?_
        have hN : (d.kind == 2 && !true) = false := by rw [Bool.not_true, Bool.and_false]
        rw [show doK s.l s.seq d = (s.l, ⟨5, 0⟩) by rw [hD, k3, hH, hN, decide_eq_true h12]; rfl]
        refine ⟨_, ?_, hc.cells 5 rfl, ?_⟩
        · rfl
        refine ⟨hc.may 3 rfl 0 _ (nle rfl) rfl, ?_⟩
        intro w20 h20
        have hc := (hc.set 3 rfl h20).1
        refine ⟨hc.may 2 rfl 0 _ (nle rfl) rfl, ?_⟩
        intro w21 h21
        have hc := (hc.set 2 rfl h21).1
        refine ⟨_, ?_, hc.cells 3 rfl, ?_⟩
        · rfl
        refine ⟨_, ?_, hc.cells 2 rfl, ?_⟩
        · rfl
        exact ⟨(some ad), cap, css, rfl, hc.below, hc.out.1, hc.out.2⟩
    · refine split_t k1 ?_
      have k2 : (d.kind == 2) = false := by
        have : d.kind = 1 := by simpa using k1
        rw [this]; rfl
      refine ⟨_, ?_, hc.cells 1 rfl, ?_⟩
      · rfl
      refine ⟨_, hc.cell 4 rfl _ rfl, ?_⟩
      refine ⟨_, hc.cell 4 rfl _ rfl, ?_⟩
      refine call_b (holds_any e d.cond d.tag A1 cap1 S w11 (hRe.below hc.below) heb) ?_
      intro w12 h12w
      have hc := (hc.quiet h12w).1
      rcases Bool.eq_false_or_eq_true (holdsE e d.cond d.tag) with hh | hh
      rotate_left
      · refine split_t (by show (!holdsE e d.cond d.tag) = true; rw [hh]; rfl) ?_
        rw [show doK s.l s.seq d = (s.l, ⟨9, 0⟩) by rw [hD, k3, k1, hh]; rfl]
        refine ⟨_, ?_, hc.cells 5 rfl, ?_⟩
        · rfl
        refine ⟨hc.may 3 rfl 0 _ (nle rfl) rfl, ?_⟩
        intro w20 h20
        have hc := (hc.set 3 rfl h20).1
        refine ⟨hc.may 2 rfl 0 _ (nle rfl) rfl, ?_⟩
        intro w21 h21
        have hc := (hc.set 2 rfl h21).1
        refine ⟨_, ?_, hc.cells 3 rfl, ?_⟩
        · rfl
        refine ⟨_, ?_, hc.cells 2 rfl, ?_⟩
        · rfl
        exact ⟨(some ad), cap, css, rfl, hc.below, hc.out.1, hc.out.2⟩
      refine split_f (by show (!holdsE e d.cond d.tag) = false; rw [hh]; rfl) ?_
      have hH : (d.kind == 1 && !holdsE e d.cond d.tag) = false := by rw [hh, Bool.not_true, Bool.and_false]
      refine ⟨_, hc.cell 4 rfl _ rfl, ?_⟩
      refine split_f k2 ?_
      have hN : (d.kind == 2 && !true) = false := by rw [Bool.not_true, Bool.and_false]
      rw [show doK s.l s.seq d = (s.l, ⟨5, 0⟩) by rw [hD, k3, hH, hN, decide_eq_true h12]; rfl]
      refine ⟨_, ?_, hc.cells 5 rfl, ?_⟩
      · rfl
      refine ⟨hc.may 3 rfl 0 _ (nle rfl) rfl, ?_⟩
      intro w20 h20
      have hc := (hc.set 3 rfl h20).1
      refine ⟨hc.may 2 rfl 0 _ (nle rfl) rfl, ?_⟩
      intro w21 h21
      have hc := (hc.set 2 rfl h21).1
      refine ⟨_, ?_, hc.cells 3 rfl, ?_⟩
      · rfl
      refine ⟨_, ?_, hc.cells 2 rfl, ?_⟩
      · rfl
      exact ⟨(some ad), cap, css, rfl, hc.below, hc.out.1, hc.out.2⟩
  have h12 : ¬ 12 ≤ e.vs.length := by omega
  refine split_f (decide_eq_false (show ¬ (12 : Int) ≤ (e.vs.length : Int) by omega)) ?_
  refine ⟨_, hc.cell 4 rfl _ rfl, ?_⟩
  refine ⟨_, hc.cell 3 rfl _ rfl, ?_⟩
  refine ⟨_, hc.cell 3 rfl _ rfl, ?_⟩
  intro g10 w10 h10
  have hc := (hc.loc h10).1
  refine ⟨hc.may 0 rfl _ _ (Nat.le_refl 3) rfl, ?_⟩
  intro w11 h11
  have hc := (hc.set 0 rfl h11).1
  refine ⟨_, hc.cell 4 rfl _ rfl, ?_⟩
  cases k3 : (d.kind == 3)
  rotate_left
  · refine split_t k3 ?_
    rw [show doK s.l s.seq d = purgeK s.l (posK s.l d.key) e d.ver by rw [hD, k3]; rfl]
    refine ⟨_, ?_, hc.cells 5 rfl, ?_⟩
    · rfl
    refine ⟨_, ?_, hc.cells 1 rfl, ?_⟩
    · rfl
    refine ⟨_, hc.cell 4 rfl _ rfl, ?_⟩
    refine ⟨(purgeK_any s (some ad) B cap cap' l0 l1 l2 l3 l4 css S w11 (hE.below hc.below) (hR.below hc.below) hn (posK s.l d.key) e A1 cap1 (hRe.below hc.below) hel d.ver (fun h => hpl)).mono fun en w12 hq => ?_⟩
    obtain ⟨A5, c5, css5, e5, h12, hE5, hR5⟩ := hq
    have hc := (hc.call h12).1.know (X := fun S w => RepEs S w (purgeK s.l (posK s.l d.key) e d.ver).1 css5 ∧ Row S w A5 (purgeK s.l (posK s.l d.key) e d.ver).1.length c5 css5.flatten) ⟨hE5, hR5⟩ (fun _ _ _ _ h f => ⟨RepEs.fut h.1 f, h.2.fut f⟩)
    refine ⟨_, e5, ?_⟩
    refine ⟨hc.may 3 rfl 0 _ (nle rfl) rfl, ?_⟩
    intro w20 h20
    have hc := (hc.set 3 rfl h20).1
    refine ⟨hc.may 2 rfl 0 _ (nle rfl) rfl, ?_⟩
    intro w21 h21
    have hc := (hc.set 2 rfl h21).1
    refine ⟨_, ?_, hc.cells 3 rfl, ?_⟩
    · rfl
    refine ⟨_, ?_, hc.cells 2 rfl, ?_⟩
    · rfl
    exact ⟨A5, c5, css5, rfl, hc.below, hc.out.2.1, hc.out.2.2⟩
  refine split_f k3 ?_
  refine ⟨_, hc.cell 4 rfl _ rfl, ?_⟩
  cases k1 : (d.kind == 1)
  · refine split_f k1 ?_
    have hH : (d.kind == 1 && !holdsE e d.cond d.tag) = false := by rw [k1]; rfl
    cases k2 : (d.kind == 2)
    · skip
      refine ⟨_, hc.cell 4 rfl _ rfl, ?_⟩
      refine split_f k2 ?_
      have hN : (d.kind == 2 && !true) = false := by rw [Bool.not_true, Bool.and_false]
      have ek : doK s.l s.seq d = (putK s.l d.key true [⟨e.key, e.vs ++ [⟨s.seq, d.kind == 2, d.body⟩]⟩], ⟨0, s.seq⟩) := by rw [hD, k3, hH, hN, decide_eq_false h12]; rfl
      have hadd : addE e ⟨s.seq, d.kind == 2, d.body⟩ = (⟨e.key, e.vs ++ [⟨s.seq, d.kind == 2, d.body⟩]⟩, true) := by
        rw [addE, if_neg]
        rintro (h' | h')
        · have := hev h'.1; exact absurd h'.2 (by show ¬ s.seq ≤ (lastV e.vs).ver; omega)
        · omega
      obtain ⟨vs, hvs⟩ : ∃ vs : List Ver, vs = e.vs ++ [⟨s.seq, d.kind == 2, d.body⟩] := ⟨_, rfl⟩
      rw [← hvs] at hadd ek
      clear hvs
      rw [ek]
      clear ek
      refine ⟨_, ?_, hc.cells 1 rfl, ?_⟩
      · rfl
      refine ⟨_, ?_, hc.cells 0 rfl, ?_⟩
      · rfl
      refine ⟨(add_any e ⟨s.seq, d.kind == 2, d.body⟩ A1 cap1 hel S _ (hRe.below hc.below)).mono fun en w13 hq => ?_⟩
      rw [hadd] at hq
      obtain ⟨A2, cap2, e1, h13, ho⟩ := hq
      simp only at e1 ho
      have hc := hc.fresh h13 ho
      obtain ⟨S1, hs1, hc⟩ := hc.told
      refine ⟨_, e1, ?_⟩
      refine ⟨hc.may 1 rfl 0 _ (Nat.le_refl 2) rfl, ?_⟩
      intro w14 h14
      have hc := (hc.set 1 rfl h14).1
      refine ⟨_, hc.cell 5 rfl _ rfl, ?_⟩
      refine ⟨(cloneE_any (some ad) s.l.length cap css hE.flat hE.len hn S w14 (hR.below hc.below)).mono fun en w15 hq => ?_⟩
      obtain ⟨A3, cap3, e3, h15, ho⟩ := hq
      have hc := hc.fresh h15 ho
      refine ⟨_, e3, ?_⟩
      refine ⟨hc.may 5 rfl _ _ (nle rfl) rfl, ?_⟩
      intro w16 h16
      have hc := (hc.set 5 rfl h16).1
      refine ⟨_, hc.cell 5 rfl _ rfl, ?_⟩
      refine ⟨_, ?_, hc.cells 1 rfl, ?_⟩
      · rfl
      cases hA3 : A3 with
      | none =>
        have hz : s.l.length = 0 := (hc.fst.none' hA3).1
        omega
      | some a =>
      obtain ⟨g, cur, ea, hc, hcl, hct, hnc, hcm⟩ := hc.opened hA3
      rw [hA3] at ea
      cases ea
      refine ⟨⟨Int.natCast_nonneg _, Int.ofNat_lt.2 hpl⟩, ?_⟩
      generalize hae : ((⟨g, 0, none⟩ : Addr).add ((posK s.l d.key : Int).toNat * 2)) = ae
      rw [Addr.add_lit, Nat.zero_add, Int.toNat_natCast] at hae
      subst hae
      refine ⟨hc.may 0 rfl (posK s.l d.key * 2) [.string e.key, .slice A2 vs.length cap2] (by show posK s.l d.key * 2 + 2 ≤ cur.length; omega) rfl, ?_⟩
      intro w17 h17
      have h17 : Stored w16 ⟨g, posK s.l d.key * 2, none⟩ [.string e.key, .slice A2 vs.length cap2] w17 := h17
      have hc := (hc.set 0 rfl h17).1
      have hc := CtxF.closed hc 2 s.l.length cap3 hnc hcm (by rw [putAt_len, hcl])
      rw [row_set (c := [.string e.key, .slice A2 vs.length cap2]) hE.flat rfl hcl hE.len hnc hct _ hpl] at hc
      obtain ⟨S2, hs2, hc⟩ := hc.told
      refine drawn lay_ok (by kernel_rfl) (.q 0 (.q 1 (.q 2 (.q 3 (.n 4 (.z 5) .stop))))) (fun x => Blk x g2 43 _) (by kernel_rfl) (hc.blk 5 rfl) ?_
      have hc := hc.drew
      refine ⟨_, ?_, fun x hx => drop_cells hx 0 _ 0 (fun j v hj => by simpa using hj), ?_⟩
      · rfl
      refine ⟨_, fun x hx => hx.cell 0, ?_⟩
      refine ⟨?_, trivial⟩
      refine ⟨hc.may 3 rfl 0 _ (nle rfl) rfl, ?_⟩
      intro w20 h20
      have hc := (hc.set 3 rfl h20).1
      refine ⟨hc.blk 5 rfl, ?_⟩
      refine ⟨hc.may 2 rfl 0 _ (nle rfl) rfl, ?_⟩
      intro w21 h21
      have hc := (hc.set 2 rfl h21).1
      refine ⟨_, ?_, hc.cells 3 rfl, ?_⟩
      · rfl
      refine ⟨_, ?_, hc.cells 2 rfl, ?_⟩
      · rfl
      have ho := hc.out
      have hlen : (putK s.l d.key true [⟨e.key, vs⟩]).length = s.l.length := by unfold putK; rw [if_pos rfl, List.length_append, List.length_append, List.length_take, List.length_drop]; show min (posK s.l d.key) s.l.length + 1 + _ = _; omega
      refine ⟨A3, cap3, css.take (posK s.l d.key) ++ [[.string e.key, .slice A2 vs.length cap2]] ++ css.drop (posK s.l d.key + 1), ?_, hc.below, ?_, ?_⟩
      · simp only [hlen]
        rfl
      · refine ((ho.1.1.1.take _).append ?_).append (ho.1.1.1.drop _)
        exact ⟨_, _, rfl, ⟨A2, cap2, rfl, ho.1.2⟩, rfl⟩
      · simp only [hlen]
        rw [hA3]
        exact ho.2
    · skip
      refine ⟨_, hc.cell 4 rfl _ rfl, ?_⟩
      refine split_t k2 ?_
      have hN : (d.kind == 2 && !true) = false := by rw [Bool.not_true, Bool.and_false]
      have ek : doK s.l s.seq d = (putK s.l d.key true [⟨e.key, e.vs ++ [⟨s.seq, d.kind == 2, d.body⟩]⟩], ⟨0, s.seq⟩) := by rw [hD, k3, hH, hN, decide_eq_false h12]; rfl
      have hadd : addE e ⟨s.seq, d.kind == 2, d.body⟩ = (⟨e.key, e.vs ++ [⟨s.seq, d.kind == 2, d.body⟩]⟩, true) := by
        rw [addE, if_neg]
        rintro (h' | h')
        · have := hev h'.1; exact absurd h'.2 (by show ¬ s.seq ≤ (lastV e.vs).ver; omega)
        · omega
      obtain ⟨vs, hvs⟩ : ∃ vs : List Ver, vs = e.vs ++ [⟨s.seq, d.kind == 2, d.body⟩] := ⟨_, rfl⟩
      rw [← hvs] at hadd ek
      clear hvs
      rw [ek]
      clear ek
      refine ⟨_, ?_, hc.cells 1 rfl, ?_⟩
      · rfl
      refine ⟨_, ?_, hc.cells 0 rfl, ?_⟩
      · rfl
      refine ⟨(add_any e ⟨s.seq, d.kind == 2, d.body⟩ A1 cap1 hel S _ (hRe.below hc.below)).mono fun en w13 hq => ?_⟩
      rw [hadd] at hq
      obtain ⟨A2, cap2, e1, h13, ho⟩ := hq
      simp only at e1 ho
      have hc := hc.fresh h13 ho
      obtain ⟨S1, hs1, hc⟩ := hc.told
      refine ⟨_, e1, ?_⟩
      refine ⟨hc.may 1 rfl 0 _ (Nat.le_refl 2) rfl, ?_⟩
      intro w14 h14
      have hc := (hc.set 1 rfl h14).1
      refine ⟨_, hc.cell 5 rfl _ rfl, ?_⟩
      refine ⟨(cloneE_any (some ad) s.l.length cap css hE.flat hE.len hn S w14 (hR.below hc.below)).mono fun en w15 hq => ?_⟩
      obtain ⟨A3, cap3, e3, h15, ho⟩ := hq
      have hc := hc.fresh h15 ho
      refine ⟨_, e3, ?_⟩
      refine ⟨hc.may 5 rfl _ _ (nle rfl) rfl, ?_⟩
      intro w16 h16
      have hc := (hc.set 5 rfl h16).1
      refine ⟨_, hc.cell 5 rfl _ rfl, ?_⟩
      refine ⟨_, ?_, hc.cells 1 rfl, ?_⟩
      · rfl
      cases hA3 : A3 with
      | none =>
        have hz : s.l.length = 0 := (hc.fst.none' hA3).1
        omega
      | some a =>
      obtain ⟨g, cur, ea, hc, hcl, hct, hnc, hcm⟩ := hc.opened hA3
      rw [hA3] at ea
      cases ea
      refine ⟨⟨Int.natCast_nonneg _, Int.ofNat_lt.2 hpl⟩, ?_⟩
      generalize hae : ((⟨g, 0, none⟩ : Addr).add ((posK s.l d.key : Int).toNat * 2)) = ae
      rw [Addr.add_lit, Nat.zero_add, Int.toNat_natCast] at hae
      subst hae
      refine ⟨hc.may 0 rfl (posK s.l d.key * 2) [.string e.key, .slice A2 vs.length cap2] (by show posK s.l d.key * 2 + 2 ≤ cur.length; omega) rfl, ?_⟩
      intro w17 h17
      have h17 : Stored w16 ⟨g, posK s.l d.key * 2, none⟩ [.string e.key, .slice A2 vs.length cap2] w17 := h17
      have hc := (hc.set 0 rfl h17).1
      have hc := CtxF.closed hc 2 s.l.length cap3 hnc hcm (by rw [putAt_len, hcl])
      rw [row_set (c := [.string e.key, .slice A2 vs.length cap2]) hE.flat rfl hcl hE.len hnc hct _ hpl] at hc
      obtain ⟨S2, hs2, hc⟩ := hc.told
      refine drawn lay_ok (by kernel_rfl) (.q 0 (.q 1 (.q 2 (.q 3 (.n 4 (.z 5) .stop))))) (fun x => Blk x g2 43 _) (by kernel_rfl) (hc.blk 5 rfl) ?_
      have hc := hc.drew
      refine ⟨_, ?_, fun x hx => drop_cells hx 0 _ 0 (fun j v hj => by simpa using hj), ?_⟩
      · rfl
      refine ⟨_, fun x hx => hx.cell 0, ?_⟩
      refine ⟨?_, trivial⟩
      refine ⟨hc.may 3 rfl 0 _ (nle rfl) rfl, ?_⟩
      intro w20 h20
      have hc := (hc.set 3 rfl h20).1
      refine ⟨hc.blk 5 rfl, ?_⟩
      refine ⟨hc.may 2 rfl 0 _ (nle rfl) rfl, ?_⟩
      intro w21 h21
      have hc := (hc.set 2 rfl h21).1
      refine ⟨_, ?_, hc.cells 3 rfl, ?_⟩
      · rfl
      refine ⟨_, ?_, hc.cells 2 rfl, ?_⟩
      · rfl
      have ho := hc.out
      have hlen : (putK s.l d.key true [⟨e.key, vs⟩]).length = s.l.length := by unfold putK; rw [if_pos rfl, List.length_append, List.length_append, List.length_take, List.length_drop]; show min (posK s.l d.key) s.l.length + 1 + _ = _; omega
      refine ⟨A3, cap3, css.take (posK s.l d.key) ++ [[.string e.key, .slice A2 vs.length cap2]] ++ css.drop (posK s.l d.key + 1), ?_, hc.below, ?_, ?_⟩
      · simp only [hlen]
        rfl
      · refine ((ho.1.1.1.take _).append ?_).append (ho.1.1.1.drop _)
        exact ⟨_, _, rfl, ⟨A2, cap2, rfl, ho.1.2⟩, rfl⟩
      · simp only [hlen]
        rw [hA3]
        exact ho.2
  · refine split_t k1 ?_
    have k2 : (d.kind == 2) = false := by
      have : d.kind = 1 := by simpa using k1
      rw [this]; rfl
    refine ⟨_, ?_, hc.cells 1 rfl, ?_⟩
    · rfl
    refine ⟨_, hc.cell 4 rfl _ rfl, ?_⟩
    refine ⟨_, hc.cell 4 rfl _ rfl, ?_⟩
    refine call_b (holds_any e d.cond d.tag A1 cap1 S w11 (hRe.below hc.below) heb) ?_
    intro w12 h12w
    have hc := (hc.quiet h12w).1
    rcases Bool.eq_false_or_eq_true (holdsE e d.cond d.tag) with hh | hh
    rotate_left
    · refine split_t (by show (!holdsE e d.cond d.tag) = true; rw [hh]; rfl) ?_
      rw [show doK s.l s.seq d = (s.l, ⟨9, 0⟩) by rw [hD, k3, k1, hh]; rfl]
      refine ⟨_, ?_, hc.cells 5 rfl, ?_⟩
      · rfl
      refine ⟨hc.may 3 rfl 0 _ (nle rfl) rfl, ?_⟩
      intro w20 h20
      have hc := (hc.set 3 rfl h20).1
      refine ⟨hc.may 2 rfl 0 _ (nle rfl) rfl, ?_⟩
      intro w21 h21
      have hc := (hc.set 2 rfl h21).1
      refine ⟨_, ?_, hc.cells 3 rfl, ?_⟩
      · rfl
      refine ⟨_, ?_, hc.cells 2 rfl, ?_⟩
      · rfl
      exact ⟨(some ad), cap, css, rfl, hc.below, hc.out.1, hc.out.2⟩
    refine split_f (by show (!holdsE e d.cond d.tag) = false; rw [hh]; rfl) ?_
    have hH : (d.kind == 1 && !holdsE e d.cond d.tag) = false := by rw [hh, Bool.not_true, Bool.and_false]
    refine ⟨_, hc.cell 4 rfl _ rfl, ?_⟩
    refine split_f k2 ?_
    have hN : (d.kind == 2 && !true) = false := by rw [Bool.not_true, Bool.and_false]
    have ek : doK s.l s.seq d = (putK s.l d.key true [⟨e.key, e.vs ++ [⟨s.seq, d.kind == 2, d.body⟩]⟩], ⟨0, s.seq⟩) := by rw [hD, k3, hH, hN, decide_eq_false h12]; rfl
    have hadd : addE e ⟨s.seq, d.kind == 2, d.body⟩ = (⟨e.key, e.vs ++ [⟨s.seq, d.kind == 2, d.body⟩]⟩, true) := by
      rw [addE, if_neg]
      rintro (h' | h')
      · have := hev h'.1; exact absurd h'.2 (by show ¬ s.seq ≤ (lastV e.vs).ver; omega)
      · omega
    obtain ⟨vs, hvs⟩ : ∃ vs : List Ver, vs = e.vs ++ [⟨s.seq, d.kind == 2, d.body⟩] := ⟨_, rfl⟩
    rw [← hvs] at hadd ek
    clear hvs
    rw [ek]
    clear ek
    refine ⟨_, ?_, hc.cells 1 rfl, ?_⟩
    · rfl
    refine ⟨_, ?_, hc.cells 0 rfl, ?_⟩
    · rfl
    refine ⟨(add_any e ⟨s.seq, d.kind == 2, d.body⟩ A1 cap1 hel S _ (hRe.below hc.below)).mono fun en w13 hq => ?_⟩
    rw [hadd] at hq
    obtain ⟨A2, cap2, e1, h13, ho⟩ := hq
    simp only at e1 ho
    have hc := hc.fresh h13 ho
    obtain ⟨S1, hs1, hc⟩ := hc.told
    refine ⟨_, e1, ?_⟩
    refine ⟨hc.may 1 rfl 0 _ (Nat.le_refl 2) rfl, ?_⟩
    intro w14 h14
    have hc := (hc.set 1 rfl h14).1
    refine ⟨_, hc.cell 5 rfl _ rfl, ?_⟩
    refine ⟨(cloneE_any (some ad) s.l.length cap css hE.flat hE.len hn S w14 (hR.below hc.below)).mono fun en w15 hq => ?_⟩
    obtain ⟨A3, cap3, e3, h15, ho⟩ := hq
    have hc := hc.fresh h15 ho
    refine ⟨_, e3, ?_⟩
    refine ⟨hc.may 5 rfl _ _ (nle rfl) rfl, ?_⟩
    intro w16 h16
    have hc := (hc.set 5 rfl h16).1
    refine ⟨_, hc.cell 5 rfl _ rfl, ?_⟩
    refine ⟨_, ?_, hc.cells 1 rfl, ?_⟩
    · rfl
    cases hA3 : A3 with
    | none =>
      have hz : s.l.length = 0 := (hc.fst.none' hA3).1
      omega
    | some a =>
    obtain ⟨g, cur, ea, hc, hcl, hct, hnc, hcm⟩ := hc.opened hA3
    rw [hA3] at ea
    cases ea
    refine ⟨⟨Int.natCast_nonneg _, Int.ofNat_lt.2 hpl⟩, ?_⟩
    generalize hae : ((⟨g, 0, none⟩ : Addr).add ((posK s.l d.key : Int).toNat * 2)) = ae
    rw [Addr.add_lit, Nat.zero_add, Int.toNat_natCast] at hae
    subst hae
    refine ⟨hc.may 0 rfl (posK s.l d.key * 2) [.string e.key, .slice A2 vs.length cap2] (by show posK s.l d.key * 2 + 2 ≤ cur.length; omega) rfl, ?_⟩
    intro w17 h17
    have h17 : Stored w16 ⟨g, posK s.l d.key * 2, none⟩ [.string e.key, .slice A2 vs.length cap2] w17 := h17
    have hc := (hc.set 0 rfl h17).1
    have hc := CtxF.closed hc 2 s.l.length cap3 hnc hcm (by rw [putAt_len, hcl])
    rw [row_set (c := [.string e.key, .slice A2 vs.length cap2]) hE.flat rfl hcl hE.len hnc hct _ hpl] at hc
    obtain ⟨S2, hs2, hc⟩ := hc.told
    refine drawn lay_ok (by kernel_rfl) (.q 0 (.q 1 (.q 2 (.q 3 (.n 4 (.z 5) .stop))))) (fun x => Blk x g2 43 _) (by kernel_rfl) (hc.blk 5 rfl) ?_
    have hc := hc.drew
    refine ⟨_, ?_, fun x hx => drop_cells hx 0 _ 0 (fun j v hj => by simpa using hj), ?_⟩
    · rfl
    refine ⟨_, fun x hx => hx.cell 0, ?_⟩
    refine ⟨?_, trivial⟩
    refine ⟨hc.may 3 rfl 0 _ (nle rfl) rfl, ?_⟩
    intro w20 h20
    have hc := (hc.set 3 rfl h20).1
    refine ⟨hc.blk 5 rfl, ?_⟩
    refine ⟨hc.may 2 rfl 0 _ (nle rfl) rfl, ?_⟩
    intro w21 h21
    have hc := (hc.set 2 rfl h21).1
    refine ⟨_, ?_, hc.cells 3 rfl, ?_⟩
    · rfl
    refine ⟨_, ?_, hc.cells 2 rfl, ?_⟩
    · rfl
    have ho := hc.out
    have hlen : (putK s.l d.key true [⟨e.key, vs⟩]).length = s.l.length := by unfold putK; rw [if_pos rfl, List.length_append, List.length_append, List.length_take, List.length_drop]; show min (posK s.l d.key) s.l.length + 1 + _ = _; omega
    refine ⟨A3, cap3, css.take (posK s.l d.key) ++ [[.string e.key, .slice A2 vs.length cap2]] ++ css.drop (posK s.l d.key + 1), ?_, hc.below, ?_, ?_⟩
    · simp only [hlen]
      rfl
    · refine ((ho.1.1.1.take _).append ?_).append (ho.1.1.1.drop _)
      exact ⟨_, _, rfl, ⟨A2, cap2, rfl, ho.1.2⟩, rfl⟩
    · simp only [hlen]
      rw [hA3]
      exact ho.2
theorem doK_any (s : Stt) (d : D) (A B : Option Addr) (cap cap' : Nat) (l0 l1 l2 l3 l4 : Int) (el : s.lows = [l0, l1, l2, l3, l4]) (css : List (List Value)) (S : Nat → Prop) (w : World) (hE : RepEs S w s.l css) (hR : Row S w A s.l.length cap css.flatten) (hM : Row S w B s.ms.length cap' (s.ms.map memC).flatten)
    (hn : s.l.length ≤ 1000000) (hp : s.l.Pairwise (fun a b => strLt a.key b.key = true)) (hok : ∀ e ∈ s.l, e.vs.length ≤ 1000000 ∧ (e.vs.length ≠ 0 → (lastV e.vs).ver < s.seq) ∧ (nowE e).1.body.size ≤ maxLen) :
    Calls Tryz.prog 134 #[.agg (stC s A cap B cap' l0 l1 l2 l3 l4).toArray, .agg (dC d).toArray] w (RetK s B cap' l0 l1 l2 l3 l4 S (doK s.l s.seq d) w) := by
  cases hq : entAt s.l d.key with
  | none => exact (doK_none s d A B cap cap' l0 l1 l2 l3 l4 el css _ w (fun b h => h.2) hE.cutS (Row.cutS hR) (Row.cutS hM) hn hp hok hq).mono fun _ _ h => h.wide
  | some e => exact (doK_has s d A B cap cap' l0 l1 l2 l3 l4 el css _ w (fun b h => h.2) hE.cutS (Row.cutS hR) (Row.cutS hM) hn hp hok e hq).mono fun _ _ h => h.wide
set_option maxRecDepth 100000
abbrev SortK (l : List Ent) : Prop := l.Pairwise (fun a b => strLt a.key b.key = true)
abbrev SortM (l : List Mem) : Prop := l.Pairwise (fun a b => a.req < b.req)
theorem risE_sort {seq : Int} {p : Option ByteArray} {l : List Ent} (h : risE seq p l = true) : SortK l := ((risE_iff _ _ _).1 h).2.1
theorem memB_sort {lows : List Int} {seq : Int} {p : Option Int} {l : List Mem} (h : memB lows seq p l = true) : SortM l := ((memB_iff _ _ _ _).1 h).2.1
theorem mem_ins {l : List Mem} (n : Nat) (m x : Mem) : x ∈ l.take n ++ m :: l.drop n ↔ x = m ∨ x ∈ l := by
  rw [List.mem_append, List.mem_cons]
  have : x ∈ l ↔ x ∈ l.take n ∨ x ∈ l.drop n := by
    rw [← List.mem_append, List.take_append_drop]
  rw [this]
  constructor
  · rintro (h | h | h)
    · exact .inr (.inl h)
    · exact .inl h
    · exact .inr (.inr h)
  · rintro (h | h | h)
    · exact .inr (.inl h)
    · exact .inl h
    · exact .inr (.inr h)
theorem mayD_home {d : D} (h : mayD d = true) : homeI d.req ≠ 0 := by
  unfold mayD at h
  simp only [Bool.and_eq_true, Bool.not_eq_true', beq_eq_false_iff_ne, ne_eq] at h
  exact h.1.1.1.2
theorem mayD_low {d : D} (h : mayD d = true) : d.low ≤ d.req := by
  unfold mayD at h
  simp only [Bool.and_eq_true, Bool.not_eq_true', decide_eq_false_iff_not] at h
  have := h.1.2
  omega
inductive Done (s : Stt) (d : D) : Prop where
  | form (h : mayS s = false ∨ mayD d = false) (e : doS s d = (s, ⟨1, 0⟩))
  | top (h : maxN ≤ s.seq) (e : doS s d = (s, ⟨5, 0⟩))
  | old (hs : mayS s = true) (hd : mayD d = true) (hq : s.seq < maxN) (h : d.req < lowAt s.lows (homeI d.req)) (e : doS s d = (⟨s.seq + 1, s.l, s.ms, s.lows⟩, ⟨12, 0⟩))
  | told (hs : mayS s = true) (hd : mayD d = true) (hq : s.seq < maxN) (h : lowAt s.lows (homeI d.req) ≤ d.req) (m : Mem) (hm : memAt s.ms d.req = some m) (e : doS s d = (⟨s.seq + 1, s.l, s.ms, s.lows⟩, m.res))
  | full (hs : mayS s = true) (hd : mayD d = true) (hq : s.seq < maxN) (h : lowAt s.lows (homeI d.req) ≤ d.req) (hm : memAt s.ms d.req = none) (hf : 100 ≤ s.ms.length) (e : doS s d = (⟨s.seq + 1, s.l, s.ms, s.lows⟩, ⟨5, 0⟩))
  | new (hs : mayS s = true) (hd : mayD d = true) (hq : s.seq < maxN) (h : lowAt s.lows (homeI d.req) ≤ d.req) (hm : memAt s.ms d.req = none) (hf : s.ms.length < 100) (ms : List Mem) (lows : List Int)
      (hx : ∀ m, m ∈ ms ↔ (m = ⟨d.req, (doK s.l (s.seq + 1) d).2⟩ ∨ m ∈ s.ms) ∧ ¬ (m.req < d.low ∧ homeI m.req = homeI d.req ∧ lowAt s.lows (homeI d.req) < d.low ∧ homeI d.low = homeI d.req))
      (hl : lows = if lowAt s.lows (homeI d.req) < d.low ∧ homeI d.low = homeI d.req then s.lows.set (homeI d.req - 1).toNat d.low else s.lows)
      (e : doS s d = (⟨s.seq + 1, (doK s.l (s.seq + 1) d).1, ms, lows⟩, (doK s.l (s.seq + 1) d).2))
theorem doS_done (s : Stt) (d : D) : Done s d := by
  cases hs : mayS s with
  | false => exact .form (.inl hs) (by simp [doS, hs])
  | true =>
  cases hd : mayD d with
  | false => exact .form (.inr hd) (by simp [doS, hd])
  | true =>
  by_cases hq : maxN ≤ s.seq
  · exact .top hq (by simp [doS, hs, hd, hq])
  have hq' : s.seq < maxN := by omega
  by_cases h : d.req < lowAt s.lows (homeI d.req)
  · exact .old hs hd hq' h (by simp [doS, hs, hd, hq, h])
  have h' : lowAt s.lows (homeI d.req) ≤ d.req := by omega
  cases hm : memAt s.ms d.req with
  | some m => exact .told hs hd hq' h' m hm (by simp [doS, hs, hd, hq, h, hm])
  | none =>
  by_cases hf : 100 ≤ s.ms.length
  · exact .full hs hd hq' h' hm hf (by simp [doS, hs, hd, hq, h, hm, hf])
  by_cases hc : lowAt s.lows (homeI d.req) < d.low ∧ homeI d.low = homeI d.req
  · refine .new hs hd hq' h' hm (by omega) (keepM d.low (homeI d.req) (s.ms.take (posM s.ms d.req) ++ ⟨d.req, (doK s.l (s.seq + 1) d).2⟩ :: s.ms.drop (posM s.ms d.req))) _ (fun m => ?_) rfl ?_
    · unfold keepM
      rw [List.mem_filter, mem_ins]
      refine and_congr Iff.rfl ?_
      simp only [Bool.not_eq_true', Bool.and_eq_false_iff, decide_eq_false_iff_not, beq_eq_false_iff_ne, ne_eq, hc, and_true, not_and]
      by_cases c : m.req < d.low <;> simp [c]
    · rw [if_pos hc]
      simp only [doS, hs, hd, hq, h, hm, hf, hc, Bool.not_true, Bool.or_false, Bool.false_eq_true, if_false, and_self, if_true]
  · refine .new hs hd hq' h' hm (by omega) (s.ms.take (posM s.ms d.req) ++ ⟨d.req, (doK s.l (s.seq + 1) d).2⟩ :: s.ms.drop (posM s.ms d.req)) _ (fun m => ?_) rfl ?_
    · rw [mem_ins]
      constructor
      · intro h; exact ⟨h, fun h => hc h.2.2⟩
      · intro h; exact h.1
    · rw [if_neg hc]
      simp only [doS, hs, hd, hq, h, hm, hf, hc, Bool.not_true, Bool.or_false, Bool.false_eq_true, if_false]
theorem doS_lows5 {s : Stt} (d : D) (h : s.lows.length = 5) : (doS s d).1.lows.length = 5 := by
  cases doS_done s d with
  | form h0 e => rw [e]; exact h
  | top h0 e => rw [e]; exact h
  | old hs hd hq h0 e => rw [e]; exact h
  | told hs hd hq h0 m hm e => rw [e]; exact h
  | full hs hd hq h0 hm hf e => rw [e]; exact h
  | new hs hd hq h0 hm hf ms lows hx hl e =>
    rw [e]
    show lows.length = 5
    rw [hl]
    split
    · rw [List.length_set]; exact h
    · exact h
set_option maxRecDepth 100000
def RetDo (q : Stt × Res) (S : Nat → Prop) (w : World) (en : Ending) (w' : World) : Prop :=
  ∃ cs, en = .returned (.tuple #[.agg cs.toArray, .agg #[.int .i64 q.2.err, .int .i64 q.2.ver]]) ∧ Below w.heap.size w w' ∧ RepS (ext S w w') w' q.1 cs
theorem RepS.mk' {S : Nat → Prop} {w : World} {seq : Int} {l : List Ent} {ms : List Mem} {lows : List Int} {A B : Option Addr} {cap cap' : Nat} {l0 l1 l2 l3 l4 : Int} {css : List (List Value)} (el : lows = [l0, l1, l2, l3, l4]) (hE : RepEs S w l css) (hR : Row S w A l.length cap css.flatten) (hM : Row S w B ms.length cap' (ms.map memC).flatten) :
    RepS S w ⟨seq, l, ms, lows⟩ [.int .i64 seq, .slice A l.length cap, .slice B ms.length cap', .int .i64 l0, .int .i64 l1, .int .i64 l2, .int .i64 l3, .int .i64 l4] :=
  ⟨A, cap, css, B, cap', by subst el; rfl, by subst el; rfl, hE, hR, hM⟩
theorem stab_at (a : Addr) (cs : List Value) : Stab (fun S w => S a.block ∧ Go.Vc.cellsAt w a cs 0) := by
  have key : ∀ (cs : List Value) (i : Nat) (S S' : Nat → Prop) (w w' : World), S a.block → Fut S w S' w' → Go.Vc.cellsAt w a cs i → Go.Vc.cellsAt w' a cs i := by
    intro cs
    induction cs with
    | nil => intros; trivial
    | cons v r ih =>
      intro i S S' w w' hS f h
      exact ⟨(World.cell?_of_block (f.2 _ (by rw [add_block]; exact hS))).trans h.1, ih _ S S' w w' hS f h.2⟩
  intro S w S' w' h f
  exact ⟨f.1 _ h.1, key cs 0 S S' w w' h.1 f h.2⟩
theorem RowM.elemR {S : Nat → Prop} {w : World} {A : Option Addr} {n cap : Nat} {l : List Mem} (hR : Row S w A n cap (l.map memC).flatten) (i : Nat) (hi : i < l.length) :
    ∃ ad ab ao asub, A = some ad ∧ ad.add (i * 3) = ⟨ab, ao, asub⟩ ∧ S ab ∧ Go.Vc.cellsAt w ⟨ab, ao, asub⟩ (memC l[i]) 0 ∧ Go.Vc.cellsAt w ⟨ab, ao + 1, none⟩ [.int .i64 l[i].res.err, .int .i64 l[i].res.ver] 0 := by
  obtain ⟨ad, e, h⟩ := RowM.elem hR i hi
  obtain ⟨ad', e', hS, _⟩ := hR.2.2 (fun h => by
    have := (memC_flat l).len
    rw [h, List.length_map, List.length_nil] at this
    omega)
  rw [e] at e'
  cases e'
  have hb := add_block ad (i * 3)
  generalize hae : ad.add (i * 3) = ae at h hb
  obtain ⟨ab, ao, asub⟩ := ae
  simp only at hb
  subst hb
  refine ⟨ad, ad.block, ao, asub, e, hae, hS, h, ?_⟩
  obtain ⟨_, h1, h2, _⟩ := h
  refine ⟨?_, ?_, trivial⟩
  · have : (⟨ad.block, ao + 1, none⟩ : Addr).add 0 = (⟨ad.block, ao, asub⟩ : Addr).add (0 + 1) := rfl
    rw [this]; exact h1
  · have : (⟨ad.block, ao + 1, none⟩ : Addr).add (0 + 1) = (⟨ad.block, ao, asub⟩ : Addr).add (0 + 1 + 1) := rfl
    rw [this]; exact h2
def know1 (l : List Ent) (css : List (List Value)) (A : Option Addr) (cap : Nat) (ms : List Mem) (B : Option Addr) (cap' : Nat) : Kn := fun S w => RepEs S w l css ∧ Row S w A l.length cap css.flatten ∧ Row S w B ms.length cap' (ms.map memC).flatten
theorem know1_stab {l : List Ent} {css : List (List Value)} {A : Option Addr} {cap : Nat} {ms : List Mem} {B : Option Addr} {cap' : Nat} : Stab (know1 l css A cap ms B cap') := fun _ _ _ _ h f => ⟨RepEs.fut h.1 f, h.2.1.fut f, h.2.2.fut f⟩
theorem insC (l : List Mem) (i : Nat) (m : Mem) : ((l.map memC).take i).flatten ++ memC m ++ ((l.map memC).drop i).flatten = ((l.take i ++ m :: l.drop i).map memC).flatten := by simp
theorem posM_le : ∀ (l : List Mem) (k : Int), posM l k ≤ l.length
  | [], _ => Nat.le_refl _
  | e :: r, k => by
    rw [posM]
    split
    · exact Nat.succ_le_succ (posM_le r k)
    · exact Nat.zero_le _
theorem lows_put (a b c : Value) (l0 l1 l2 l3 l4 x : Int) (h j : Int) (hr : 1 ≤ h ∧ h ≤ 5) (hj : j = h - 1) : ∃ m0 m1 m2 m3 m4, [l0, l1, l2, l3, l4].set (h - 1).toNat x = [m0, m1, m2, m3, m4] ∧
    putAt [a, b, c, .int .i64 l0, .int .i64 l1, .int .i64 l2, .int .i64 l3, .int .i64 l4] (3 + j.toNat) [.int .i64 x] = [a, b, c, .int .i64 m0, .int .i64 m1, .int .i64 m2, .int .i64 m3, .int .i64 m4] := by
  subst hj
  have : h = 1 ∨ h = 2 ∨ h = 3 ∨ h = 4 ∨ h = 5 := by omega
  rcases this with rfl | rfl | rfl | rfl | rfl
  · exact ⟨x, l1, l2, l3, l4, rfl, rfl⟩
  · exact ⟨l0, x, l2, l3, l4, rfl, rfl⟩
  · exact ⟨l0, l1, x, l3, l4, rfl, rfl⟩
  · exact ⟨l0, l1, l2, x, l4, rfl, rfl⟩
  · exact ⟨l0, l1, l2, l3, x, rfl, rfl⟩
theorem mayS_ents {s : Stt} (h : mayS s = true) : ∀ e ∈ s.l, e.vs.length ≤ 1000000 ∧ (e.vs.length ≠ 0 → (lastV e.vs).ver < s.seq + 1) ∧ (nowE e).1.body.size ≤ maxLen := by
  intro e he
  obtain ⟨_, _, hris, _⟩ := mayS_parts.1 h
  have ho := ((risE_iff _ _ _).1 hris).1 e he
  have hp := mayE_parts.1 ho.1
  have hv := okEnt_vers ho
  refine ⟨by omega, fun h0 => ?_, ?_⟩
  · have := ho.2 _ (lastV_mem (l := e.vs) (fun h => h0 (by rw [h]; rfl)))
    omega
  · rw [nowE, if_neg (by omega)]
    have := hv _ (lastV_mem (l := e.vs) (fun h => by rw [h] at hp; simp at hp))
    have := (verOk_nums this).2
    simp only [maxLen]
    omega
set_option maxHeartbeats 4000000 in
theorem bdo_any (s : Stt) (d : D) (hk : ∀ e ∈ s.l, strok e.key) (hd : d.Ok) (cs : List Value) (S : Nat → Prop) (w : World) (hlt : ∀ b, S b → b < w.heap.size) (hs : RepS S w s cs) : Calls Tryz.prog 86 #[.agg cs.toArray, .agg (dC d).toArray] w (RetDo (doS s d) S w) := by
  obtain ⟨A, cap, css, B, cap', l0, l1, l2, l3, l4, rfl, el, hE, hR, hM⟩ := hs.shape
  refine calls_vc lay_ok Tryz.func86 rfl (by kernel_rfl) (by kernel_rfl) ?_
  intro g2 w1 h1
  have hc := ((CtxF.start w S hlt (R := know1 s.l css A cap s.ms B cap') ⟨hE, hR, hM⟩ know1_stab).loc h1).1
  intro g3 wg3 hg3
  have hc := (hc.loc hg3).1
  intro g4 wg4 hg4
  have hc := (hc.loc hg4).1
  intro g5 wg5 hg5
  have hc := (hc.loc hg5).1
  refine ⟨_, ?_, hc.cells 3 rfl, ?_⟩
  · rfl
  refine call_b (bmay_any s hk _ S _ (hs.below hc.below)) ?_
  intro wQ hQ
  have hc := (hc.quiet hQ).1
  have same : ∀ (w' : World) (r : Res), Below w.heap.size w w' → doS s d = (s, r) → RetDo (doS s d) S w (.returned (.tuple #[.agg (stC s A cap B cap' l0 l1 l2 l3 l4).toArray, .agg #[.int .i64 r.err, .int .i64 r.ver]])) w' := fun w' r hb e => by
    rw [e]
    exact ⟨_, rfl, hb, hs.map (fun h => h.old hb)⟩
  rcases Bool.eq_false_or_eq_true (mayS s) with hm | hm
  rotate_left
  · refine split_t (by show (!mayS s) = true; rw [hm]; rfl) ?_
    refine ⟨_, ?_, hc.cells 3 rfl, ?_⟩
    · rfl
    refine ⟨hc.may 1 rfl _ _ (nle rfl) rfl, ?_⟩
    intro wS hS
    have hc := (hc.set 1 rfl hS).1
    refine ⟨hc.may 0 rfl _ _ (nle rfl) rfl, ?_⟩
    intro wS hS
    have hc := (hc.set 0 rfl hS).1
    refine ⟨_, ?_, hc.cells 1 rfl, ?_⟩
    · rfl
    refine ⟨_, ?_, hc.cells 0 rfl, ?_⟩
    · rfl
    exact same _ ⟨1, 0⟩ hc.below (by simp [doS, hm])
  refine split_f (by show (!mayS s) = false; rw [hm]; rfl) ?_
  refine ⟨_, ?_, hc.cells 2 rfl, ?_⟩
  · rfl
  refine call_b (may_any d hd _) ?_
  intro wQ hQ
  have hc := (hc.quiet hQ).1
  rcases Bool.eq_false_or_eq_true (mayD d) with hmd | hmd
  rotate_left
  · refine split_t (by show (!mayD d) = true; rw [hmd]; rfl) ?_
    refine ⟨_, ?_, hc.cells 3 rfl, ?_⟩
    · rfl
    refine ⟨hc.may 1 rfl _ _ (nle rfl) rfl, ?_⟩
    intro wS hS
    have hc := (hc.set 1 rfl hS).1
    refine ⟨hc.may 0 rfl _ _ (nle rfl) rfl, ?_⟩
    intro wS hS
    have hc := (hc.set 0 rfl hS).1
    refine ⟨_, ?_, hc.cells 1 rfl, ?_⟩
    · rfl
    refine ⟨_, ?_, hc.cells 0 rfl, ?_⟩
    · rfl
    exact same _ ⟨1, 0⟩ hc.below (by simp [doS, hmd])
  refine split_f (by show (!mayD d) = false; rw [hmd]; rfl) ?_
  refine ⟨_, hc.cell 3 rfl _ rfl, ?_⟩
  rcases Int.lt_or_le s.seq maxN with hq | hq
  rotate_left
  · refine split_t (decide_eq_true (show (1099511627776 : Int) ≤ s.seq from hq)) ?_
    refine ⟨_, ?_, hc.cells 3 rfl, ?_⟩
    · rfl
    refine ⟨hc.may 1 rfl _ _ (nle rfl) rfl, ?_⟩
    intro wS hS
    have hc := (hc.set 1 rfl hS).1
    refine ⟨hc.may 0 rfl _ _ (nle rfl) rfl, ?_⟩
    intro wS hS
    have hc := (hc.set 0 rfl hS).1
    refine ⟨_, ?_, hc.cells 1 rfl, ?_⟩
    · rfl
    refine ⟨_, ?_, hc.cells 0 rfl, ?_⟩
    · rfl
    exact same _ ⟨5, 0⟩ hc.below (by simp [doS, hm, hmd, hq])
  have hq : s.seq < 1099511627776 := hq
  refine split_f (decide_eq_false (show ¬ (1099511627776 : Int) ≤ s.seq by omega)) ?_
  clear same
  obtain ⟨⟨hq0, _⟩, ⟨hl40, hm100⟩, hris, _, hmem⟩ := mayS_parts.1 hm
  have hhr := homeI_range d.req
  have hh0 := mayD_home hmd
  have hr15 : 1 ≤ homeI d.req ∧ homeI d.req ≤ 5 := by omega
  refine ⟨_, hc.cell 3 rfl _ rfl, ?_⟩
  have hw1 : IntKind.i64.wrap (s.seq + 1) = s.seq + 1 := wrap_add _ _ (by omega) (by omega)
  refine ⟨hc.may 3 rfl _ _ (nle rfl) rfl, ?_⟩
  intro w5 h5
  rw [hw1] at h5
  have hc := (hc.set 3 rfl h5).1
  have hc : CtxF S w S w5 [(g5, 54, [.int .i64 0, .int .i64 0]), (g4, 43, (lay.ty 43).zero), (g3, 32, dC d), (g2, 43, [.int .i64 (s.seq + 1), .slice A s.l.length cap, .slice B s.ms.length cap', .int .i64 l0, .int .i64 l1, .int .i64 l2, .int .i64 l3, .int .i64 l4])] [] (know1 s.l css A cap s.ms B cap') := hc
  refine ⟨_, hc.cell 2 rfl _ rfl, ?_⟩
  refine call_b (home_any d.req _) ?_
  intro wQ hQ
  have hc := (hc.quiet hQ).1
  have hw2 : IntKind.i64.wrap (homeI d.req - 1) = homeI d.req - 1 := by rw [IntWalk.i64_in _ ⟨by omega, by omega⟩]
  intro g6 wg6 hg6
  have hc := (hc.loc hg6).1
  refine ⟨hc.may 0 rfl _ _ (Nat.le_refl 1) rfl, ?_⟩
  intro w6 h6
  rw [hw2] at h6
  have hc := (hc.set 0 rfl h6).1
  have hc : CtxF S w S w6 [(g6, 3, [.int .i64 (homeI d.req - 1)]), (g5, 54, [.int .i64 0, .int .i64 0]), (g4, 43, (lay.ty 43).zero), (g3, 32, dC d), (g2, 43, [.int .i64 (s.seq + 1), .slice A s.l.length cap, .slice B s.ms.length cap', .int .i64 l0, .int .i64 l1, .int .i64 l2, .int .i64 l3, .int .i64 l4])] [] (know1 s.l css A cap s.ms B cap') := hc
  refine ⟨_, ?_, hc.cells 4 rfl, ?_⟩
  · rfl
  refine ⟨_, hc.cell 3 rfl _ rfl, ?_⟩
  have hs1 : RepS S w ⟨s.seq + 1, s.l, s.ms, s.lows⟩ [.int .i64 (s.seq + 1), .slice A s.l.length cap, .slice B s.ms.length cap', .int .i64 l0, .int .i64 l1, .int .i64 l2, .int .i64 l3, .int .i64 l4] := RepS.mk' el hE hR hM
  refine call_b (memo_any ⟨s.seq + 1, s.l, s.ms, s.lows⟩ d.req (memB_sort hmem) (by show s.ms.length ≤ _; omega) _ S _ (hs1.below hc.below)) ?_
  intro wQ hQ
  have hc := (hc.quiet hQ).1
  have same : ∀ (w' : World) (r : Res), Below w.heap.size w w' → doS s d = (⟨s.seq + 1, s.l, s.ms, s.lows⟩, r) → RetDo (doS s d) S w (.returned (.tuple #[.agg #[.int .i64 (s.seq + 1), .slice A s.l.length cap, .slice B s.ms.length cap', .int .i64 l0, .int .i64 l1, .int .i64 l2, .int .i64 l3, .int .i64 l4], .agg #[.int .i64 r.err, .int .i64 r.ver]])) w' := fun w' r hb e => by
    rw [e]
    exact ⟨_, rfl, hb, hs1.map (fun h => h.old hb)⟩
  have hnq : ¬ maxN ≤ s.seq := by show ¬ 1099511627776 ≤ s.seq; omega
  have hlc := lows_cell (hc.blk 4 rfl) (homeI d.req) (homeI d.req - 1) hr15 rfl
  rw [← el] at hlc
  refine drawn lay_ok (by kernel_rfl) (.q 0 (.q 1 (.q 2 (.q 3 (.q 4 (.q 5 (.q 6 (.q 7 .fin)))))))) (Keeps (fun b => b < wQ.heap.size) wQ) (by kernel_rfl) (Keeps.start _ _) ?_
  refine ⟨_, fun x hx => hx.look (hc.cell 3 rfl _ rfl), ?_⟩
  refine ⟨_, fun x hx => hx.look (hc.cell 0 rfl _ rfl), ?_⟩
  refine ⟨⟨by omega, by omega⟩, ?_⟩
  generalize hae : ((⟨g2, 0 + 3, none⟩ : Addr).add ((homeI d.req - 1).toNat * 1)) = ae at hlc ⊢
  obtain ⟨ab, ao, asub⟩ := ae
  refine ⟨_, fun x hx => hx.look hlc, ?_⟩
  have hc := hc.drew
  rcases Int.lt_or_le d.req (lowAt s.lows (homeI d.req)) with ho | ho
  · refine split_t (decide_eq_true ho) ?_
    refine ⟨_, ?_, hc.cells 4 rfl, ?_⟩
    · rfl
    refine ⟨hc.may 2 rfl _ _ (nle rfl) rfl, ?_⟩
    intro wS hS
    have hc := (hc.set 2 rfl hS).1
    refine ⟨hc.may 1 rfl _ _ (nle rfl) rfl, ?_⟩
    intro wS hS
    have hc := (hc.set 1 rfl hS).1
    refine ⟨_, ?_, hc.cells 2 rfl, ?_⟩
    · rfl
    refine ⟨_, ?_, hc.cells 1 rfl, ?_⟩
    · rfl
    exact same _ ⟨12, 0⟩ hc.below (by simp [doS, hm, hmd, hnq, ho])
  refine split_f (decide_eq_false (show ¬ d.req < lowAt s.lows (homeI d.req) by omega)) ?_
  have hno : ¬ d.req < lowAt s.lows (homeI d.req) := by omega
  cases hmm : memAt s.ms d.req with
  | some m =>
    have hmi : s.ms[posM s.ms d.req]? = some m := by
      unfold memAt at hmm
      cases e1 : s.ms[posM s.ms d.req]? with
      | none => rw [e1] at hmm; cases hmm
      | some x =>
        rw [e1] at hmm
        simp only at hmm
        split at hmm
        · exact hmm
        · cases hmm
    obtain ⟨hlt2, hge⟩ := List.getElem?_eq_some_iff.1 hmi
    obtain ⟨ad, ab, ao, asub, rfl, hae, hSb, _, hcell⟩ := RowM.elemR hM (posM s.ms d.req) hlt2
    rw [hge] at hcell
    have hc := hc.know (hc.old (stab_at ⟨ab, ao + 1, none⟩ [.int .i64 m.res.err, .int .i64 m.res.ver]) ⟨hSb, hcell⟩ hlt) (stab_at _ _)
    refine drawn lay_ok (by kernel_rfl) (.q 0 (.q 1 (.q 2 (.q 3 (.q 4 (.q 5 (.q 6 (.n 7 (.z 8) .stop)))))))) (fun x => Blk x g2 43 _ ∧ Go.Vc.cellsAt x ⟨ab, ao + 1, none⟩ [.int .i64 m.res.err, .int .i64 m.res.ver] 0) (by kernel_rfl) ⟨hc.blk 4 rfl, hc.row.2.2⟩ ?_
    refine ⟨_, ?_, fun x hx => drop_cells hx.1 0 _ 0 (fun j v hj => by simpa using hj), ?_⟩
    · rfl
    refine ⟨_, fun x hx => hx.1.cell 2, ?_⟩
    refine ⟨⟨Int.natCast_nonneg _, Int.ofNat_lt.2 hlt2⟩, ?_⟩
    rw [← Int.toNat_natCast (posM s.ms d.req)] at hae
    generalize ad.add ((posM s.ms d.req : Int).toNat * 3) = ae at hae ⊢
    subst hae
    refine ⟨_, ?_, fun x hx => hx.2, ?_⟩
    · rfl
    have hc := hc.drew
    refine ⟨?_, trivial⟩
    refine ⟨hc.may 2 rfl _ _ (nle rfl) rfl, ?_⟩
    intro wS hS
    have hc := (hc.set 2 rfl hS).1
    refine ⟨⟨hc.blk 4 rfl, hc.row.2.2⟩, ?_⟩
    refine ⟨hc.may 1 rfl _ _ (nle rfl) rfl, ?_⟩
    intro wS hS
    have hc := (hc.set 1 rfl hS).1
    refine ⟨_, ?_, hc.cells 2 rfl, ?_⟩
    · rfl
    refine ⟨_, ?_, hc.cells 1 rfl, ?_⟩
    · rfl
    exact same _ m.res hc.below (by simp [doS, hm, hmd, hnq, hno, hmm])
  | none =>
  refine ⟨_, hc.cell 4 rfl _ rfl, ?_⟩
  rcases Nat.lt_or_ge s.ms.length 100 with hf | hf
  rotate_left
  · refine split_t (decide_eq_true (show (100 : Int) ≤ (s.ms.length : Int) by omega)) ?_
    refine ⟨_, ?_, hc.cells 4 rfl, ?_⟩
    · rfl
    refine ⟨hc.may 2 rfl _ _ (nle rfl) rfl, ?_⟩
    intro wS hS
    have hc := (hc.set 2 rfl hS).1
    refine ⟨hc.may 1 rfl _ _ (nle rfl) rfl, ?_⟩
    intro wS hS
    have hc := (hc.set 1 rfl hS).1
    refine ⟨_, ?_, hc.cells 2 rfl, ?_⟩
    · rfl
    refine ⟨_, ?_, hc.cells 1 rfl, ?_⟩
    · rfl
    exact same _ ⟨5, 0⟩ hc.below (by simp [doS, hm, hmd, hnq, ho, hno, hmm, hf])
  refine split_f (decide_eq_false (show ¬ (100 : Int) ≤ (s.ms.length : Int) by omega)) ?_
  have hnf : ¬ 100 ≤ s.ms.length := by omega
  refine ⟨_, ?_, hc.cells 4 rfl, ?_⟩
  · rfl
  refine ⟨_, ?_, hc.cells 3 rfl, ?_⟩
  · rfl
  refine ⟨(doK_any ⟨s.seq + 1, s.l, s.ms, s.lows⟩ d A B cap cap' l0 l1 l2 l3 l4 el css S _ (hE.below hc.below) (hR.below hc.below) (hM.below hc.below) (by show s.l.length ≤ _; omega) (risE_sort hris) (mayS_ents hm)).mono fun en wq hq => ?_⟩
  obtain ⟨A5, c5, css5, e5, h5, hE5, hR5⟩ := hq
  have hdo : doS s d = (if lowAt s.lows (homeI d.req) < d.low ∧ homeI d.low = homeI d.req then
      (⟨s.seq + 1, (doK s.l (s.seq + 1) d).1, keepM d.low (homeI d.req) (s.ms.take (posM s.ms d.req) ++ ⟨d.req, (doK s.l (s.seq + 1) d).2⟩ :: s.ms.drop (posM s.ms d.req)), s.lows.set (homeI d.req - 1).toNat d.low⟩, (doK s.l (s.seq + 1) d).2)
      else (⟨s.seq + 1, (doK s.l (s.seq + 1) d).1, s.ms.take (posM s.ms d.req) ++ ⟨d.req, (doK s.l (s.seq + 1) d).2⟩ :: s.ms.drop (posM s.ms d.req), s.lows⟩, (doK s.l (s.seq + 1) d).2)) := by
    simp only [doS, hm, hmd, hnq, hno, hmm, hnf, Bool.not_true, Bool.or_false, Bool.false_eq_true, if_false]
  rw [hdo]
  clear hdo
  have hc := (hc.call h5).1.know (X := fun S w => RepEs S w (doK s.l (s.seq + 1) d).1 css5 ∧ Row S w A5 (doK s.l (s.seq + 1) d).1.length c5 css5.flatten) ⟨hE5, hR5⟩ (fun _ _ _ _ h f => ⟨RepEs.fut h.1 f, h.2.fut f⟩)
  generalize ext S _ wq = S5 at hc
  clear hE5 hR5
  generalize doK s.l (s.seq + 1) d = q at *
  obtain ⟨ql, qr⟩ := q
  refine ⟨_, e5, ?_⟩
  intro g9 wg9 hg9
  have hc := (hc.loc hg9).1
  refine ⟨hc.may 5 rfl _ _ (nle rfl) rfl, ?_⟩
  intro wS hS
  have hc := (hc.set 5 rfl hS).1
  refine ⟨hc.may 0 rfl _ _ (nle rfl) rfl, ?_⟩
  intro wS hS
  have hc := (hc.set 0 rfl hS).1
  obtain ⟨ms, hms⟩ : ∃ ms, ms = s.ms.take (posM s.ms d.req) ++ ⟨d.req, qr⟩ :: s.ms.drop (posM s.ms d.req) := ⟨_, rfl⟩
  have hml : ms.length = s.ms.length + 1 := by
    have := posM_le s.ms d.req
    rw [hms, List.length_append, List.length_cons, List.length_take, List.length_drop]
    omega
  refine drawn lay_ok (by kernel_rfl) (.q 0 (.q 1 (.q 3 (.q 4 (.q 5 (.q 6 (.q 7 (.n 2 (.n 8 (.n 9 (.q 10 (.z 11)) .stop) .stop) (.n 8 (.n 2 (.n 9 (.q 10 (.z 11)) .stop) .stop) .stop))))))))) (fun x => Blk x g2 43 _ ∧ Blk x g3 32 (dC d) ∧ Blk x g9 54 _) (by kernel_rfl) ⟨hc.blk 5 rfl, hc.blk 4 rfl, hc.blk 0 rfl⟩ ?_
  refine ⟨_, fun x hx => hx.1.cell 2, ?_⟩
  refine ⟨_, fun x hx => hx.2.1.cell 6, ?_⟩
  refine ⟨_, ?_, fun x hx => drop_cells hx.2.2 0 _ 0 (fun j v hj => by simpa using hj), ?_⟩
  · rfl
  have hc := hc.drew
  have hcel : (s.ms.map memC).length = s.ms.length := List.length_map _
  refine ⟨?_, ?_, trivial⟩
  · skip
    refine ⟨(cloneM_any B s.ms.length cap' (s.ms.map memC) (memC_flat _) hcel (by omega) S _ (hM.below hc.below)).mono fun en wq hq => ?_⟩
    obtain ⟨A7, cap7, e7, h7, ho⟩ := hq
    have hc := hc.fresh h7 ho
    refine ⟨_, e7, ⟨hc.blk 5 rfl, hc.blk 4 rfl, hc.blk 0 rfl⟩, ?_⟩
    refine ⟨?_, trivial⟩
    intro gb wgb hgb
    have hc := (hc.loc hgb).1
    refine ⟨⟨hc.blk 6 rfl, hc.blk 5 rfl, hc.blk 1 rfl⟩, ?_⟩
    refine ⟨?_, trivial⟩
    obtain ⟨hcx, hox⟩ := hc.others
    have hd := insertM_any hcx (s.ms.map memC) (memC_flat _) (by rw [hcel]; omega) (A := A7) (cap := cap7) (by rw [hcel]; exact hox) (posM s.ms d.req) (by rw [hcel]; exact posM_le _ _) 0 gb (memC ⟨d.req, qr⟩) rfl rfl rfl
    rw [hcel] at hd
    refine ⟨hd.mono fun en w18 hq => ?_⟩
    obtain ⟨A8, cap8, e8, hcx, hfx, hox⟩ := hq
    rw [insC, ← hms, ← hml] at hox
    rw [← hml] at e8
    have hc := (hc.back (o' := ⟨56, 3, A8, ms.length, cap8, (ms.map memC).flatten⟩) hcx hfx hox (fun x hx => ⟨x, hx, rfl⟩)).drop
    refine ⟨_, e8, ⟨hc.blk 5 rfl, hc.blk 4 rfl, hc.blk 0 rfl⟩, ?_⟩
    refine ⟨hc.may 5 rfl _ _ (nle rfl) rfl, ?_⟩
    intro wS hS
    have hc := (hc.set 5 rfl hS).1
    have hc : CtxF S w _ wS [(g9, 54, [.int .i64 qr.err, .int .i64 qr.ver]), (g6, 3, [.int .i64 (homeI d.req - 1)]), (g5, 54, [.int .i64 0, .int .i64 0]), (g4, 43, (lay.ty 43).zero), (g3, 32, dC d), (g2, 43, [.int .i64 (s.seq + 1), .slice A5 ql.length c5, .slice A8 ms.length cap8, .int .i64 l0, .int .i64 l1, .int .i64 l2, .int .i64 l3, .int .i64 l4])] [⟨56, 3, A8, ms.length, cap8, (ms.map memC).flatten⟩] _ := hc
    refine ⟨_, hc.cell 4 rfl _ rfl, ?_⟩
    intro g10 wg10 hg10
    have hc := (hc.loc hg10).1
    refine ⟨hc.may 0 rfl _ _ (nle rfl) rfl, ?_⟩
    intro wS hS
    have hc := (hc.set 0 rfl hS).1
    have hlc := lows_cell (hc.blk 6 rfl) (homeI d.req) (homeI d.req - 1) hr15 rfl
    rw [← el] at hlc
    generalize hlo : lowAt s.lows (homeI d.req) = lo at hlc
    refine drawn lay_ok (by kernel_rfl) (.q 0 (.q 1 (.q 2 (.q 3 (.q 4 (.q 5 (.q 6 (.q 7 (.q 9 (.q 10 (.n 8 (.q 11 (.q 12 .fin)) .stop))))))))))) (Keeps (fun b => b < wS.heap.size) wS) (by kernel_rfl) (Keeps.start _ _) ?_
    refine ⟨_, fun x hx => hx.look (hc.cell 0 rfl _ rfl), ?_⟩
    refine ⟨_, fun x hx => hx.look (hc.cell 2 rfl _ rfl), ?_⟩
    refine ⟨⟨by omega, by omega⟩, ?_⟩
    generalize hae : ((⟨g2, 0 + 3, none⟩ : Addr).add ((homeI d.req - 1).toNat * 1)) = ae at hlc ⊢
    have hae : (⟨g2, 3 + (homeI d.req - 1).toNat, none⟩ : Addr) = ae := by rw [← hae, Addr.add_lit, Nat.mul_one, Nat.zero_add]
    subst hae
    refine ⟨_, fun x hx => hx.look hlc, ?_⟩
    have hk1 := Keeps.start (fun b => b < wS.heap.size) wS
    have hltS : ∀ b, b < wS.heap.size → b < wS.heap.size := fun _ h => h
    have hwh : IntKind.i64.wrap (homeI d.req - 1 + 1) = homeI d.req := by rw [IntWalk.i64_in _ ⟨by omega, by omega⟩]; omega
    rcases Int.lt_or_le lo d.low with hlw | hlw
    · refine split_t (decide_eq_true hlw) ?_
      refine ⟨_, fun x hx => hx.look (hc.cell 0 rfl _ rfl), ?_⟩
      refine ⟨_, fun x hx => hx.look (hc.cell 2 rfl _ rfl), ?_⟩
      have hc := hc.drew
      refine ⟨?_, trivial⟩
      refine call_b (home_any d.low _) ?_
      intro w20 h20
      have hc := (hc.quiet h20).1
      refine ⟨hk1.below hltS h20, ?_⟩
      by_cases hhl : homeI d.low = homeI d.req
      · refine split_t (by show (homeI d.low == IntKind.i64.wrap (homeI d.req - 1 + 1)) = true; rw [hwh, hhl]; simp) ?_
        rw [if_pos ⟨hlw, hhl⟩]
        refine ⟨_, hc.cell 2 rfl _ rfl, ?_⟩
        refine ⟨_, hc.cell 0 rfl _ rfl, ?_⟩
        refine ⟨⟨by omega, by omega⟩, ?_⟩
        generalize hae : ((⟨g2, 0 + 3, none⟩ : Addr).add ((homeI d.req - 1).toNat * 1)) = ae
        have hae : (⟨g2, 3 + (homeI d.req - 1).toNat, none⟩ : Addr) = ae := by rw [← hae, Addr.add_lit, Nat.mul_one, Nat.zero_add]
        subst hae
        refine ⟨hc.may 6 rfl (3 + (homeI d.req - 1).toNat) [.int .i64 d.low] (by show 3 + (homeI d.req - 1).toNat + 1 ≤ 8; omega) rfl, ?_⟩
        intro w21 h21
        have h21 : Stored w20 ⟨g2, 3 + (homeI d.req - 1).toNat, none⟩ [.int .i64 d.low] w21 := h21
        have hc := (hc.set 6 rfl h21).1
        obtain ⟨m0, m1, m2, m3, m4, em, ep⟩ := lows_put (.int .i64 (s.seq + 1)) (.slice A5 ql.length c5) (.slice A8 ms.length cap8) l0 l1 l2 l3 l4 d.low (homeI d.req) (homeI d.req - 1) hr15 rfl
        have hc : CtxF S w _ w21 [(g10, 2, [.int .i64 d.low]), (g9, 54, [.int .i64 qr.err, .int .i64 qr.ver]), (g6, 3, [.int .i64 (homeI d.req - 1)]), (g5, 54, [.int .i64 0, .int .i64 0]), (g4, 43, (lay.ty 43).zero), (g3, 32, dC d), (g2, 43, putAt [.int .i64 (s.seq + 1), .slice A5 ql.length c5, .slice A8 ms.length cap8, .int .i64 l0, .int .i64 l1, .int .i64 l2, .int .i64 l3, .int .i64 l4] (3 + (homeI d.req - 1).toNat) [.int .i64 d.low])] [⟨56, 3, A8, ms.length, cap8, (ms.map memC).flatten⟩] _ := hc
        rw [ep] at hc
        rw [el, em]
        refine ⟨_, hc.cell 6 rfl _ rfl, ?_⟩
        obtain ⟨hcx, hox⟩ := hc.others
        have hd := deleteFuncM_any hcx ms (by omega) hox d.low (homeI d.req - 1) (by omega) (by omega) 0 2 g10 g6 2 3 rfl rfl
        rw [show homeI d.req - 1 + 1 = homeI d.req by omega] at hd
        refine ⟨hd.mono fun en w22 hq => ?_⟩
        obtain ⟨A9, e9, hcx, hfx, hox⟩ := hq
        have hc := hc.back (o' := ⟨56, 3, A9, (keepM d.low (homeI d.req) ms).length, cap8, ((keepM d.low (homeI d.req) ms).map memC).flatten⟩) hcx hfx hox (fun x hx => ⟨x, hx, rfl⟩)
        refine ⟨_, e9, ?_⟩
        refine ⟨hc.may 6 rfl _ _ (nle rfl) rfl, ?_⟩
        intro wS hS
        have hc := (hc.set 6 rfl hS).1
        obtain ⟨S9, _, hc⟩ := hc.told
        refine drawn lay_ok (by kernel_rfl) (.q 0 (.q 1 (.n 2 (.z 3) .stop))) (fun x => Blk x g2 43 _ ∧ Blk x g9 54 _) (by kernel_rfl) ⟨hc.blk 6 rfl, hc.blk 1 rfl⟩ ?_
        refine ⟨_, ?_, fun x hx => drop_cells hx.1 0 _ 0 (fun j v hj => by simpa using hj), ?_⟩
        · rfl
        refine ⟨_, ?_, fun x hx => drop_cells hx.2 0 _ 0 (fun j v hj => by simpa using hj), ?_⟩
        · rfl
        have hc := hc.drew
        refine ⟨?_, trivial⟩
        refine ⟨hc.may 4 rfl _ _ (nle rfl) rfl, ?_⟩
        intro wS hS
        have hc := (hc.set 4 rfl hS).1
        refine ⟨⟨hc.blk 6 rfl, hc.blk 1 rfl⟩, ?_⟩
        refine ⟨hc.may 3 rfl _ _ (nle rfl) rfl, ?_⟩
        intro wS hS
        have hc := (hc.set 3 rfl hS).1
        refine ⟨_, ?_, hc.cells 4 rfl, ?_⟩
        · rfl
        refine ⟨_, ?_, hc.cells 3 rfl, ?_⟩
        · rfl
        have ho := hc.out
        subst hms
        exact ⟨_, rfl, hc.below, RepS.mk' rfl ho.1.2.1 ho.1.2.2 ho.2⟩
      · refine split_f (by show (homeI d.low == IntKind.i64.wrap (homeI d.req - 1 + 1)) = false; rw [hwh]; simpa using hhl) ?_
        rw [if_neg (fun h => hhl h.2)]
        obtain ⟨S9, _, hc⟩ := hc.told
        refine drawn lay_ok (by kernel_rfl) (.q 0 (.q 1 (.n 2 (.z 3) .stop))) (fun x => Blk x g2 43 _ ∧ Blk x g9 54 _) (by kernel_rfl) ⟨hc.blk 6 rfl, hc.blk 1 rfl⟩ ?_
        refine ⟨_, ?_, fun x hx => drop_cells hx.1 0 _ 0 (fun j v hj => by simpa using hj), ?_⟩
        · rfl
        refine ⟨_, ?_, fun x hx => drop_cells hx.2 0 _ 0 (fun j v hj => by simpa using hj), ?_⟩
        · rfl
        have hc := hc.drew
        refine ⟨?_, trivial⟩
        refine ⟨hc.may 4 rfl _ _ (nle rfl) rfl, ?_⟩
        intro wS hS
        have hc := (hc.set 4 rfl hS).1
        refine ⟨⟨hc.blk 6 rfl, hc.blk 1 rfl⟩, ?_⟩
        refine ⟨hc.may 3 rfl _ _ (nle rfl) rfl, ?_⟩
        intro wS hS
        have hc := (hc.set 3 rfl hS).1
        refine ⟨_, ?_, hc.cells 4 rfl, ?_⟩
        · rfl
        refine ⟨_, ?_, hc.cells 3 rfl, ?_⟩
        · rfl
        have ho := hc.out
        subst hms
        exact ⟨_, rfl, hc.below, RepS.mk' el ho.1.2.1 ho.1.2.2 ho.2⟩
    · refine split_f (decide_eq_false (show ¬ lo < d.low by omega)) ?_
      refine ⟨?_, trivial⟩
      have hc := hc.drew
      rw [if_neg (fun h => absurd h.1 (by omega))]
      obtain ⟨S9, _, hc⟩ := hc.told
      refine drawn lay_ok (by kernel_rfl) (.q 0 (.q 1 (.n 2 (.z 3) .stop))) (fun x => Blk x g2 43 _ ∧ Blk x g9 54 _) (by kernel_rfl) ⟨hc.blk 6 rfl, hc.blk 1 rfl⟩ ?_
      refine ⟨_, ?_, fun x hx => drop_cells hx.1 0 _ 0 (fun j v hj => by simpa using hj), ?_⟩
      · rfl
      refine ⟨_, ?_, fun x hx => drop_cells hx.2 0 _ 0 (fun j v hj => by simpa using hj), ?_⟩
      · rfl
      have hc := hc.drew
      refine ⟨?_, trivial⟩
      refine ⟨hc.may 4 rfl _ _ (nle rfl) rfl, ?_⟩
      intro wS hS
      have hc := (hc.set 4 rfl hS).1
      refine ⟨⟨hc.blk 6 rfl, hc.blk 1 rfl⟩, ?_⟩
      refine ⟨hc.may 3 rfl _ _ (nle rfl) rfl, ?_⟩
      intro wS hS
      have hc := (hc.set 3 rfl hS).1
      refine ⟨_, ?_, hc.cells 4 rfl, ?_⟩
      · rfl
      refine ⟨_, ?_, hc.cells 3 rfl, ?_⟩
      · rfl
      have ho := hc.out
      subst hms
      exact ⟨_, rfl, hc.below, RepS.mk' el ho.1.2.1 ho.1.2.2 ho.2⟩
  · skip
    intro gb wgb hgb
    have hc := (hc.loc hgb).1
    refine ⟨⟨hc.blk 6 rfl, hc.blk 5 rfl, hc.blk 1 rfl⟩, ?_⟩
    refine ⟨?_, trivial⟩
    refine ⟨(cloneM_any B s.ms.length cap' (s.ms.map memC) (memC_flat _) hcel (by omega) S _ (hM.below hc.below)).mono fun en wq hq => ?_⟩
    obtain ⟨A7, cap7, e7, h7, ho⟩ := hq
    have hc := hc.fresh h7 ho
    refine ⟨_, e7, ⟨hc.blk 6 rfl, hc.blk 5 rfl, hc.blk 1 rfl⟩, ?_⟩
    refine ⟨?_, trivial⟩
    obtain ⟨hcx, hox⟩ := hc.others
    have hd := insertM_any hcx (s.ms.map memC) (memC_flat _) (by rw [hcel]; omega) (A := A7) (cap := cap7) (by rw [hcel]; exact hox) (posM s.ms d.req) (by rw [hcel]; exact posM_le _ _) 0 gb (memC ⟨d.req, qr⟩) rfl rfl rfl
    rw [hcel] at hd
    refine ⟨hd.mono fun en w18 hq => ?_⟩
    obtain ⟨A8, cap8, e8, hcx, hfx, hox⟩ := hq
    rw [insC, ← hms, ← hml] at hox
    rw [← hml] at e8
    have hc := (hc.back (o' := ⟨56, 3, A8, ms.length, cap8, (ms.map memC).flatten⟩) hcx hfx hox (fun x hx => ⟨x, hx, rfl⟩)).drop
    refine ⟨_, e8, ⟨hc.blk 5 rfl, hc.blk 4 rfl, hc.blk 0 rfl⟩, ?_⟩
    refine ⟨hc.may 5 rfl _ _ (nle rfl) rfl, ?_⟩
    intro wS hS
    have hc := (hc.set 5 rfl hS).1
    have hc : CtxF S w _ wS [(g9, 54, [.int .i64 qr.err, .int .i64 qr.ver]), (g6, 3, [.int .i64 (homeI d.req - 1)]), (g5, 54, [.int .i64 0, .int .i64 0]), (g4, 43, (lay.ty 43).zero), (g3, 32, dC d), (g2, 43, [.int .i64 (s.seq + 1), .slice A5 ql.length c5, .slice A8 ms.length cap8, .int .i64 l0, .int .i64 l1, .int .i64 l2, .int .i64 l3, .int .i64 l4])] [⟨56, 3, A8, ms.length, cap8, (ms.map memC).flatten⟩] _ := hc
    refine ⟨_, hc.cell 4 rfl _ rfl, ?_⟩
    intro g10 wg10 hg10
    have hc := (hc.loc hg10).1
    refine ⟨hc.may 0 rfl _ _ (nle rfl) rfl, ?_⟩
    intro wS hS
    have hc := (hc.set 0 rfl hS).1
    have hlc := lows_cell (hc.blk 6 rfl) (homeI d.req) (homeI d.req - 1) hr15 rfl
    rw [← el] at hlc
    generalize hlo : lowAt s.lows (homeI d.req) = lo at hlc
    refine drawn lay_ok (by kernel_rfl) (.q 0 (.q 1 (.q 2 (.q 3 (.q 4 (.q 5 (.q 6 (.q 7 (.q 9 (.q 10 (.n 8 (.q 11 (.q 12 .fin)) .stop))))))))))) (Keeps (fun b => b < wS.heap.size) wS) (by kernel_rfl) (Keeps.start _ _) ?_
    refine ⟨_, fun x hx => hx.look (hc.cell 0 rfl _ rfl), ?_⟩
    refine ⟨_, fun x hx => hx.look (hc.cell 2 rfl _ rfl), ?_⟩
    refine ⟨⟨by omega, by omega⟩, ?_⟩
    generalize hae : ((⟨g2, 0 + 3, none⟩ : Addr).add ((homeI d.req - 1).toNat * 1)) = ae at hlc ⊢
    have hae : (⟨g2, 3 + (homeI d.req - 1).toNat, none⟩ : Addr) = ae := by rw [← hae, Addr.add_lit, Nat.mul_one, Nat.zero_add]
    subst hae
    refine ⟨_, fun x hx => hx.look hlc, ?_⟩
    have hk1 := Keeps.start (fun b => b < wS.heap.size) wS
    have hltS : ∀ b, b < wS.heap.size → b < wS.heap.size := fun _ h => h
    have hwh : IntKind.i64.wrap (homeI d.req - 1 + 1) = homeI d.req := by rw [IntWalk.i64_in _ ⟨by omega, by omega⟩]; omega
    rcases Int.lt_or_le lo d.low with hlw | hlw
    · refine split_t (decide_eq_true hlw) ?_
      refine ⟨_, fun x hx => hx.look (hc.cell 0 rfl _ rfl), ?_⟩
      refine ⟨_, fun x hx => hx.look (hc.cell 2 rfl _ rfl), ?_⟩
      have hc := hc.drew
      refine ⟨?_, trivial⟩
      refine call_b (home_any d.low _) ?_
      intro w20 h20
      have hc := (hc.quiet h20).1
      refine ⟨hk1.below hltS h20, ?_⟩
      by_cases hhl : homeI d.low = homeI d.req
      · refine split_t (by show (homeI d.low == IntKind.i64.wrap (homeI d.req - 1 + 1)) = true; rw [hwh, hhl]; simp) ?_
        rw [if_pos ⟨hlw, hhl⟩]
        refine ⟨_, hc.cell 2 rfl _ rfl, ?_⟩
        refine ⟨_, hc.cell 0 rfl _ rfl, ?_⟩
        refine ⟨⟨by omega, by omega⟩, ?_⟩
        generalize hae : ((⟨g2, 0 + 3, none⟩ : Addr).add ((homeI d.req - 1).toNat * 1)) = ae
        have hae : (⟨g2, 3 + (homeI d.req - 1).toNat, none⟩ : Addr) = ae := by rw [← hae, Addr.add_lit, Nat.mul_one, Nat.zero_add]
        subst hae
        refine ⟨hc.may 6 rfl (3 + (homeI d.req - 1).toNat) [.int .i64 d.low] (by show 3 + (homeI d.req - 1).toNat + 1 ≤ 8; omega) rfl, ?_⟩
        intro w21 h21
        have h21 : Stored w20 ⟨g2, 3 + (homeI d.req - 1).toNat, none⟩ [.int .i64 d.low] w21 := h21
        have hc := (hc.set 6 rfl h21).1
        obtain ⟨m0, m1, m2, m3, m4, em, ep⟩ := lows_put (.int .i64 (s.seq + 1)) (.slice A5 ql.length c5) (.slice A8 ms.length cap8) l0 l1 l2 l3 l4 d.low (homeI d.req) (homeI d.req - 1) hr15 rfl
        have hc : CtxF S w _ w21 [(g10, 2, [.int .i64 d.low]), (g9, 54, [.int .i64 qr.err, .int .i64 qr.ver]), (g6, 3, [.int .i64 (homeI d.req - 1)]), (g5, 54, [.int .i64 0, .int .i64 0]), (g4, 43, (lay.ty 43).zero), (g3, 32, dC d), (g2, 43, putAt [.int .i64 (s.seq + 1), .slice A5 ql.length c5, .slice A8 ms.length cap8, .int .i64 l0, .int .i64 l1, .int .i64 l2, .int .i64 l3, .int .i64 l4] (3 + (homeI d.req - 1).toNat) [.int .i64 d.low])] [⟨56, 3, A8, ms.length, cap8, (ms.map memC).flatten⟩] _ := hc
        rw [ep] at hc
        rw [el, em]
        refine ⟨_, hc.cell 6 rfl _ rfl, ?_⟩
        obtain ⟨hcx, hox⟩ := hc.others
        have hd := deleteFuncM_any hcx ms (by omega) hox d.low (homeI d.req - 1) (by omega) (by omega) 0 2 g10 g6 2 3 rfl rfl
        rw [show homeI d.req - 1 + 1 = homeI d.req by omega] at hd
        refine ⟨hd.mono fun en w22 hq => ?_⟩
        obtain ⟨A9, e9, hcx, hfx, hox⟩ := hq
        have hc := hc.back (o' := ⟨56, 3, A9, (keepM d.low (homeI d.req) ms).length, cap8, ((keepM d.low (homeI d.req) ms).map memC).flatten⟩) hcx hfx hox (fun x hx => ⟨x, hx, rfl⟩)
        refine ⟨_, e9, ?_⟩
        refine ⟨hc.may 6 rfl _ _ (nle rfl) rfl, ?_⟩
        intro wS hS
        have hc := (hc.set 6 rfl hS).1
        obtain ⟨S9, _, hc⟩ := hc.told
        refine drawn lay_ok (by kernel_rfl) (.q 0 (.q 1 (.n 2 (.z 3) .stop))) (fun x => Blk x g2 43 _ ∧ Blk x g9 54 _) (by kernel_rfl) ⟨hc.blk 6 rfl, hc.blk 1 rfl⟩ ?_
        refine ⟨_, ?_, fun x hx => drop_cells hx.1 0 _ 0 (fun j v hj => by simpa using hj), ?_⟩
        · rfl
        refine ⟨_, ?_, fun x hx => drop_cells hx.2 0 _ 0 (fun j v hj => by simpa using hj), ?_⟩
        · rfl
        have hc := hc.drew
        refine ⟨?_, trivial⟩
        refine ⟨hc.may 4 rfl _ _ (nle rfl) rfl, ?_⟩
        intro wS hS
        have hc := (hc.set 4 rfl hS).1
        refine ⟨⟨hc.blk 6 rfl, hc.blk 1 rfl⟩, ?_⟩
        refine ⟨hc.may 3 rfl _ _ (nle rfl) rfl, ?_⟩
        intro wS hS
        have hc := (hc.set 3 rfl hS).1
        refine ⟨_, ?_, hc.cells 4 rfl, ?_⟩
        · rfl
        refine ⟨_, ?_, hc.cells 3 rfl, ?_⟩
        · rfl
        have ho := hc.out
        subst hms
        exact ⟨_, rfl, hc.below, RepS.mk' rfl ho.1.2.1 ho.1.2.2 ho.2⟩
      · refine split_f (by show (homeI d.low == IntKind.i64.wrap (homeI d.req - 1 + 1)) = false; rw [hwh]; simpa using hhl) ?_
        rw [if_neg (fun h => hhl h.2)]
        obtain ⟨S9, _, hc⟩ := hc.told
        refine drawn lay_ok (by kernel_rfl) (.q 0 (.q 1 (.n 2 (.z 3) .stop))) (fun x => Blk x g2 43 _ ∧ Blk x g9 54 _) (by kernel_rfl) ⟨hc.blk 6 rfl, hc.blk 1 rfl⟩ ?_
        refine ⟨_, ?_, fun x hx => drop_cells hx.1 0 _ 0 (fun j v hj => by simpa using hj), ?_⟩
        · rfl
        refine ⟨_, ?_, fun x hx => drop_cells hx.2 0 _ 0 (fun j v hj => by simpa using hj), ?_⟩
        · rfl
        have hc := hc.drew
        refine ⟨?_, trivial⟩
        refine ⟨hc.may 4 rfl _ _ (nle rfl) rfl, ?_⟩
        intro wS hS
        have hc := (hc.set 4 rfl hS).1
        refine ⟨⟨hc.blk 6 rfl, hc.blk 1 rfl⟩, ?_⟩
        refine ⟨hc.may 3 rfl _ _ (nle rfl) rfl, ?_⟩
        intro wS hS
        have hc := (hc.set 3 rfl hS).1
        refine ⟨_, ?_, hc.cells 4 rfl, ?_⟩
        · rfl
        refine ⟨_, ?_, hc.cells 3 rfl, ?_⟩
        · rfl
        have ho := hc.out
        subst hms
        exact ⟨_, rfl, hc.below, RepS.mk' el ho.1.2.1 ho.1.2.2 ho.2⟩
    · refine split_f (decide_eq_false (show ¬ lo < d.low by omega)) ?_
      refine ⟨?_, trivial⟩
      have hc := hc.drew
      rw [if_neg (fun h => absurd h.1 (by omega))]
      obtain ⟨S9, _, hc⟩ := hc.told
      refine drawn lay_ok (by kernel_rfl) (.q 0 (.q 1 (.n 2 (.z 3) .stop))) (fun x => Blk x g2 43 _ ∧ Blk x g9 54 _) (by kernel_rfl) ⟨hc.blk 6 rfl, hc.blk 1 rfl⟩ ?_
      refine ⟨_, ?_, fun x hx => drop_cells hx.1 0 _ 0 (fun j v hj => by simpa using hj), ?_⟩
      · rfl
      refine ⟨_, ?_, fun x hx => drop_cells hx.2 0 _ 0 (fun j v hj => by simpa using hj), ?_⟩
      · rfl
      have hc := hc.drew
      refine ⟨?_, trivial⟩
      refine ⟨hc.may 4 rfl _ _ (nle rfl) rfl, ?_⟩
      intro wS hS
      have hc := (hc.set 4 rfl hS).1
      refine ⟨⟨hc.blk 6 rfl, hc.blk 1 rfl⟩, ?_⟩
      refine ⟨hc.may 3 rfl _ _ (nle rfl) rfl, ?_⟩
      intro wS hS
      have hc := (hc.set 3 rfl hS).1
      refine ⟨_, ?_, hc.cells 4 rfl, ?_⟩
      · rfl
      refine ⟨_, ?_, hc.cells 3 rfl, ?_⟩
      · rfl
      have ho := hc.out
      subst hms
      exact ⟨_, rfl, hc.below, RepS.mk' el ho.1.2.1 ho.1.2.2 ho.2⟩
set_option maxRecDepth 100000
def RetR (S : Nat → Prop) (q : List Ent × Res) (w : World) (en : Ending) (w' : World) : Prop :=
  ∃ A c css, en = .returned (.tuple #[.slice A q.1.length c, .agg #[.int .i64 q.2.err, .int .i64 q.2.ver]]) ∧ Below w.heap.size w w' ∧ RepEs (ext S w w') w' q.1 css ∧ Row (ext S w w') w' A q.1.length c css.flatten
theorem RetR.wide {S : Nat → Prop} {q : List Ent × Res} {w w' : World} {en : Ending} (h : RetR (fun b => S b ∧ b < w.heap.size) q w en w') : RetR S q w en w' := by
  obtain ⟨A, c, css, h1, h2, h3, h4⟩ := h
  exact ⟨A, c, css, h1, h2, h3.wide ext_cut, h4.wide ext_cut⟩
theorem mayD_kind {d : D} (h : mayD d = true) : d.kind = 1 ∨ d.kind = 2 ∨ d.kind = 3 := by
  by_cases h1 : d.kind = 1
  · exact .inl h1
  by_cases h2 : d.kind = 2
  · exact .inr (.inl h2)
  by_cases h3 : d.kind = 3
  · exact .inr (.inr h3)
  simp [mayD, h1, h2, h3] at h
set_option maxRecDepth 100000
set_option maxRecDepth 100000
theorem idxK_none' (k : ByteArray) : ∀ l : List Ent, (∀ j (h : j < l.length), strEq l[j].key k = false) → idxK l k = none
  | [], _ => rfl
  | m :: r, h => by
    have h0 : strEq m.key k = false := h 0 (by simp)
    rw [idxK, h0, idxK_none' k r (fun j hj => h (j + 1) (by simpa using hj))]
    rfl
theorem idxK_some' (k : ByteArray) : ∀ (l : List Ent) (i : Nat) (hi : i < l.length), strEq l[i].key k = true → (∀ j (h : j < l.length), j < i → strEq l[j].key k = false) → idxK l k = some i
  | m :: r, 0, hi, hp, _ => by
    have h0 : strEq m.key k = true := hp
    rw [idxK, h0]
    rfl
  | m :: r, i + 1, hi, hp, h => by
    have h0 : strEq m.key k = false := h 0 (by simp) (by omega)
    rw [idxK, h0, idxK_some' k r i (by simpa using hi) (by simpa using hp) (fun j hj hlt => h (j + 1) (by simpa using hj) (by omega))]
    rfl
theorem idxK_mem : ∀ {l : List Ent} {k : ByteArray} {i : Nat}, idxK l k = some i → ∃ h : i < l.length, l[i].key = k
  | [], k, i, h => by cases h
  | m :: r, k, i, h => by
    rw [idxK] at h
    split at h
    · rename_i hk
      cases h
      exact ⟨by simp, strEq_iff.1 hk⟩
    · cases e : idxK r k with
      | none => rw [e] at h; cases h
      | some j =>
        rw [e] at h
        cases h
        obtain ⟨h1, h2⟩ := idxK_mem e
        exact ⟨by simpa using h1, by simpa using h2⟩
def getE (o : Option Ent) (n : Int) : Ver × Int :=
  match o with
  | none => (Ver0, 6)
  | some e =>
    let q : Option Ver := if n = 0 then (if e.vs.length = 0 then none else some (lastV e.vs)) else (idxV e.vs n).bind fun i => e.vs[i]?
    match q with
    | none => (Ver0, 6)
    | some v => if v.gone then (Ver0, 10) else (v, 0)
theorem getS_E (s : Stt) (k : ByteArray) (n : Int) : getS s k n = getE ((idxK s.l k).bind fun i => s.l[i]?) n := rfl
theorem get1_any (k key : ByteArray) (A : Option Addr) (n cap : Nat) (a : Addr) (w : World) (ha : w.cell? a = some (.string k)) : Calls Tryz.prog 146 #[.agg #[.string key, .slice A n cap], .pointer (some a)] w (RetB (.bool (strEq key k)) w) := by
  obtain ⟨ab, ao, asub⟩ := a
  refine calls_vc lay_ok Tryz.func146 rfl (by kernel_rfl) (by kernel_rfl) ?_
  intro g w1 h1
  have hc := ((Ctx.start w no (fun _ h => h.elim)).loc h1).1
  refine ⟨_, hc.cell 0 rfl _ rfl, ?_⟩
  refine ⟨_, cell_later hc.below ha, ?_⟩
  exact ⟨rfl, hc.below⟩
theorem indexFuncE_any (l : List Ent) (k : ByteArray) (a : Addr) (A : Option Addr) (cap : Nat) (css : List (List Value)) (S : Nat → Prop) (w : World) (hE : RepEs S w l css) (hR : Row S w A l.length cap css.flatten) (ha : w.cell? a = some (.string k)) :
    Calls Tryz.prog 145 #[.slice A l.length cap, .func (.func 146) #[] #[.pointer (some a)]] w (RetB (.int .i64 (idxI (idxK l k))) w) := by
  refine calls_vc lay_ok Tryz.func145 rfl (by kernel_rfl) (by kernel_rfl) ?_
  have hM := row_max hR
  refine ⟨Nat, fun i => [(0, .slice A l.length cap), (1, .func (.func 146) #[] #[.pointer (some a)]), (7, .int .i64 l.length), (8, .int .i64 i)],
    fun i w' => i ≤ l.length ∧ (∀ j (hj : j < l.length), j < i → strEq l[j].key k = false) ∧ Below w.heap.size w w', fun i _ => l.length - i, 0,
    ⟨rfl, rfl, rfl, rfl, trivial⟩, ⟨Nat.zero_le _, fun j hj h => absurd h (Nat.not_lt_zero _), Below.refl _ _⟩, ?_⟩
  rintro i w' u ⟨hi, he, hb⟩
  by_cases hlt : i < l.length
  · refine split_t (decide_eq_true (by omega)) ?_
    obtain ⟨ad, A1, cap1, rfl, hcell, _⟩ := RowE.elem (hR.below hb) (hE.below hb) i hlt
    refine ⟨⟨by omega, by omega⟩, ?_⟩
    refine ⟨[.string l[i].key, .slice A1 l[i].vs.length cap1], rfl, hcell, ?_⟩
    refine call_b (get1_any k l[i].key A1 _ cap1 a w' (cell_later hb ha)) ?_
    intro w2 h2
    have hb2 := hb.trans (h2.mono hb.size)
    rcases Bool.eq_false_or_eq_true (strEq l[i].key k) with hv | hv
    · refine split_t hv ?_
      refine ⟨?_, hb2⟩
      rw [idxK_some' k l i hlt hv he]
      rfl
    · refine split_f hv ?_
      refine ⟨i + 1, ⟨rfl, rfl, rfl, congrArg _ (i_down (by omega)), trivial⟩, ⟨hlt, fun j hj h => ?_, hb2⟩, by show l.length - (i + 1) < l.length - i; omega⟩
      rcases Nat.lt_succ_iff_lt_or_eq.1 h with h | h
      · exact he j hj h
      · subst h; exact hv
  · refine split_f (decide_eq_false (by omega)) ?_
    refine ⟨?_, hb⟩
    rw [idxK_none' k l (fun j hj => he j hj (by omega))]
    rfl
set_option maxHeartbeats 1000000 in
theorem bget_any (s : Stt) (k : ByteArray) (n : Int) (cs : List Value) (S : Nat → Prop) (w : World) (hs : RepS S w s cs) : Calls Tryz.prog 106 #[.agg cs.toArray, .string k, .int .i64 n] w (RetB (.tuple #[.agg (verC (getS s k n).1).toArray, .int .i64 (getS s k n).2]) w) := by
  obtain ⟨A, cap, css, B, cap', l0, l1, l2, l3, l4, rfl, el, hE, hR, hM⟩ := hs.shape
  rw [getS_E]
  refine calls_vc lay_ok Tryz.func106 rfl (by kernel_rfl) (by kernel_rfl) ?_
  have hc := CtxF.start w no (fun _ h => h.elim) (R := fun _ _ => True) trivial Stab.true
  intro g3 wg3 hg3
  have hc := (hc.loc hg3).1
  intro g4 wg4 hg4
  have hc := (hc.loc hg4).1
  intro g6 wg6 hg6
  have hc := (hc.loc hg6).1
  refine ⟨_, hc.cell 2 rfl _ rfl, ?_⟩
  have hf := indexFuncE_any s.l k ⟨g4, 0, none⟩ A cap css S _ (hE.below hc.below) (hR.below hc.below) (hc.cell 1 rfl 0 rfl)
  cases hi : idxK s.l k with
  | none =>
    rw [hi, show idxI none = -1 from rfl] at hf
    refine call_b (hf) ?_
    intro wQ hQ
    have hc := (hc.quiet hQ).1
    refine ⟨hc.may 0 rfl _ _ (nle rfl) rfl, ?_⟩
    intro wS hS
    have hc := (hc.set 0 rfl hS).1
    refine ⟨_, ?_, hc.cells 0 rfl, ?_⟩
    · rfl
    exact ⟨rfl, hc.below⟩
  | some i =>
    rw [hi, show idxI (some i) = (i : Int) from rfl] at hf
    refine call_b (hf) ?_
    intro wQ hQ
    have hc := (hc.quiet hQ).1
    obtain ⟨hlt, _⟩ := idxK_mem hi
    have hg : ((some i).bind fun i => s.l[i]?) = some s.l[i] := List.getElem?_eq_getElem hlt
    rw [hg]
    obtain ⟨ad, A1, cap1, rfl, hcell0, hRe⟩ := RowE.elem hR hE i hlt
    generalize s.l[i] = e at *
    refine ⟨_, hc.cell 2 rfl _ rfl, ?_⟩
    refine ⟨⟨Int.natCast_nonneg _, Int.ofNat_lt.2 hlt⟩, ?_⟩
    refine ⟨[.string e.key, .slice A1 e.vs.length cap1], rfl, cellsAt_later hc.below _ _ hcell0, ?_⟩
    refine call_b (at_any e n A1 cap1 S _ (hRe.below hc.below)) ?_
    intro wQ hQ
    have hc := (hc.quiet hQ).1
    intro g9 wg9 hg9
    have hc := (hc.loc hg9).1
    refine ⟨hc.may 0 rfl _ _ (nle rfl) rfl, ?_⟩
    intro wS hS
    have hc := (hc.set 0 rfl hS).1
    have fin : ∀ w' v e', Below w.heap.size w w' → getE (some e) n = (v, e') → RetB (.tuple #[.agg (verC (getE (some e) n).1).toArray, .int .i64 (getE (some e) n).2]) w (.returned (.tuple #[.agg (verC v).toArray, .int .i64 e'])) w' := fun w' v e' hb h => by rw [h]; exact ⟨rfl, hb⟩
    by_cases h0 : n = 0
    · refine split_t (by show (n == 0) = true; rw [h0]; rfl) ?_
      refine ⟨_, hc.cell 3 rfl _ rfl, ?_⟩
      refine ⟨⟨Int.natCast_nonneg _, Int.ofNat_lt.2 hlt⟩, ?_⟩
      refine ⟨[.string e.key, .slice A1 e.vs.length cap1], rfl, cellsAt_later hc.below _ _ hcell0, ?_⟩
      refine call_b (now_any e A1 cap1 S _ (hRe.below hc.below)) ?_
      intro wQ hQ
      have hc := (hc.quiet hQ).1
      refine ⟨hc.may 0 rfl _ _ (nle rfl) rfl, ?_⟩
      intro wS hS
      have hc := (hc.set 0 rfl hS).1
      refine ⟨_, hc.cell 3 rfl _ rfl, ?_⟩
      refine ⟨⟨Int.natCast_nonneg _, Int.ofNat_lt.2 hlt⟩, ?_⟩
      have hcell := cellsAt_later hc.below _ _ hcell0
      rw [← Int.toNat_natCast i] at hcell
      generalize ad.add ((i : Int).toNat * 2) = ae at hcell ⊢
      obtain ⟨ab, ao, asub⟩ := ae
      refine ⟨_, hcell.2.1, ?_⟩
      have hMx := row_max hRe
      by_cases hv : e.vs.length = 0
      · have hn : nowE e = (Ver0, false) := by rw [nowE, if_pos hv]
        refine split_t (by show (!decide ((0 : Int) < (e.vs.length : Int))) = true; rw [decide_eq_false (by omega)]; rfl) ?_
        refine ⟨hc.may 1 rfl _ _ (nle rfl) rfl, ?_⟩
        intro wS hS
        have hc := (hc.set 1 rfl hS).1
        refine ⟨_, ?_, hc.cells 1 rfl, ?_⟩
        · rfl
        exact fin _ Ver0 6 hc.below (by simp only [getE, if_pos h0, if_pos hv])
      · have hn : nowE e = (lastV e.vs, !(lastV e.vs).gone) := by rw [nowE, if_neg hv]
        rw [hn] at hc
        refine split_f (by show (!decide ((0 : Int) < (e.vs.length : Int))) = false; rw [decide_eq_true (by omega)]; rfl) ?_
        refine ⟨.bool (lastV e.vs).gone, hc.cell 0 rfl 1 rfl, ?_⟩
        rcases (Bool.eq_false_or_eq_true (lastV e.vs).gone).symm with hgn | hgn
        · refine split_f hgn ?_
          refine ⟨_, ?_, hc.cells 0 rfl, ?_⟩
          · rfl
          refine ⟨hc.may 1 rfl _ _ (nle rfl) rfl, ?_⟩
          intro wS hS
          have hc := (hc.set 1 rfl hS).1
          refine ⟨_, ?_, hc.cells 1 rfl, ?_⟩
          · rfl
          exact fin _ (lastV e.vs) 0 hc.below (by simp [getE, h0, hv, hgn])
        · refine split_t hgn ?_
          refine ⟨hc.may 1 rfl _ _ (nle rfl) rfl, ?_⟩
          intro wS hS
          have hc := (hc.set 1 rfl hS).1
          refine ⟨_, ?_, hc.cells 1 rfl, ?_⟩
          · rfl
          exact fin _ Ver0 10 hc.below (by simp [getE, h0, hv, hgn])
    · refine split_f (by show (n == 0) = false; simpa using h0) ?_
      cases hj : idxV e.vs n with
      | none =>
        have ha : atE e n = (Ver0, false) := by rw [atE, hj]
        refine split_t (by show (!(atE e n).2) = true; rw [ha]; rfl) ?_
        refine ⟨hc.may 1 rfl _ _ (nle rfl) rfl, ?_⟩
        intro wS hS
        have hc := (hc.set 1 rfl hS).1
        refine ⟨_, ?_, hc.cells 1 rfl, ?_⟩
        · rfl
        exact fin _ Ver0 6 hc.below (by simp [getE, h0, hj])
      | some j =>
        obtain ⟨hjl, _⟩ := idxV_lt hj
        have ha : atE e n = (e.vs[j], true) := by rw [atE, hj]; simp only [List.getElem?_eq_getElem hjl]; rfl
        rw [ha] at hc
        refine split_f (by show (!(atE e n).2) = false; rw [ha]; rfl) ?_
        refine ⟨.bool e.vs[j].gone, hc.cell 0 rfl 1 rfl, ?_⟩
        rcases (Bool.eq_false_or_eq_true (e.vs[j]).gone).symm with hgn | hgn
        · refine split_f hgn ?_
          refine ⟨_, ?_, hc.cells 0 rfl, ?_⟩
          · rfl
          refine ⟨hc.may 1 rfl _ _ (nle rfl) rfl, ?_⟩
          intro wS hS
          have hc := (hc.set 1 rfl hS).1
          refine ⟨_, ?_, hc.cells 1 rfl, ?_⟩
          · rfl
          exact fin _ e.vs[j] 0 hc.below (by simp [getE, h0, hj, hgn, hjl])
        · refine split_t hgn ?_
          refine ⟨hc.may 1 rfl _ _ (nle rfl) rfl, ?_⟩
          intro wS hS
          have hc := (hc.set 1 rfl hS).1
          refine ⟨_, ?_, hc.cells 1 rfl, ?_⟩
          · rfl
          exact fin _ Ver0 10 hc.below (by simp [getE, h0, hj, hgn, hjl])
end Go.Proofs.YtokglimimnelaaaGreatDoor
