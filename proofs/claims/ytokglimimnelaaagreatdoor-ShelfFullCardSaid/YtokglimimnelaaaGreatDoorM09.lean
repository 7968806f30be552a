import Derived.Test.YtokglimimnelaaaGreatDoorM08
set_option linter.unusedVariables false
set_option linter.unusedSimpArgs false
section
namespace Go.Vc
open Go Go.RowKit
open Go.Proofs.YtokglimimnelaaaGreatDoor (no RetOb Env)
set_option maxRecDepth 100000
def ObjK (g T : Nat) (cs : List Value) (R O : Kn) : Kn := fun S w => S g ∧ Blk w g T cs ∧ Sep 0 R O (fun x => S x ∧ x ≠ g) w
theorem ObjK.stab {g T : Nat} {cs : List Value} {R O : Kn} (hR : Stab R) (hO : Stab O) : Stab (ObjK g T cs R O) := fun S w S' w' h f =>
  ⟨f.1 _ h.1, h.2.1.of_eq (f.2 _ h.1), Sep.stab hR hO _ _ _ _ h.2.2 ⟨fun x hx => ⟨f.1 x hx.1, hx.2⟩, fun x hx => f.2 x hx.1⟩⟩
theorem ObjK.right {g T : Nat} {cs : List Value} {R O : Kn} (hO : Stab O) {S : Nat → Prop} {w : World} (h : ObjK g T cs R O S w) : O S w :=
  hO _ _ _ _ (h.2.2.right hO) ⟨fun x hx => hx.1, fun _ _ => rfl⟩
theorem ObjK.left {g T : Nat} {cs : List Value} {R O : Kn} (hR : Stab R) {S : Nat → Prop} {w : World} (h : ObjK g T cs R O S w) : R S w :=
  hR _ _ _ _ (h.2.2.left hR) ⟨fun x hx => hx.1, fun _ _ => rfl⟩
section
variable {w0 w w' : World} {S Sa : Nat → Prop} {l : List LB} {os : List OR} {R O K X Y : Kn} {g T n0 : Nat} {cs cs' : List Value}
theorem ObjK.enter (h : ObjK g T cs R O Sa w) (hlt : ∀ x, Sa x → x < w.heap.size) (hR : Stab R) (hO : Stab O) :
    CtxF no (bare w) (fun x => x < w.heap.size ∧ x ≠ g) w [(g, T, cs)] [] (Sep 0 (Sep 0 (Keep w Sa) R) O) := by
  obtain ⟨h1, h2, Sr, So, k1, k2, k3, k4⟩ := h
  refine CtxF.enter (fun x hx => hx.1) ⟨Nat.zero_le _, fun h => h.2 rfl, h2, (fun x hx => by cases hx), trivial⟩ trivial ⟨fun x => x < w.heap.size ∧ ¬ So x ∧ x ≠ g, So, fun x hx => ⟨⟨hx.1, hx.2.2⟩, hx.2.1⟩, fun x hx => ⟨⟨hlt x (k2 x hx).1.1, (k2 x hx).1.2⟩, Nat.zero_le _⟩, ⟨fun x => x < w.heap.size ∧ ¬ Sa x, Sr, fun x hx => ⟨⟨hx.1, fun e => hx.2 (k2 x e).1.1, fun e => hx.2 (e ▸ h1)⟩, fun e => hx.2 (k1 x e).1.1⟩, fun x hx => ⟨⟨hlt x (k1 x hx).1.1, (k1 x hx).2, (k1 x hx).1.2⟩, Nat.zero_le _⟩, fun x hx hg => ⟨⟨hx, hg⟩, rfl⟩, k3⟩, k4⟩ (Sep.stab (Sep.stab (Keep.stab _ _) hR) hO)
theorem ObjK.leave (hc : CtxF no (bare w) S w' [(g, T, cs')] [] (Sep 0 (Sep 0 (Keep w Sa) R) O)) (v : Value) : RetOb Sa w v (ObjK g T cs' R O) (Ending.returned v) w' := by
  obtain ⟨S1, So, h1, h2, ⟨Sk, Sr, k1, k2, k3, k4⟩, h4⟩ := hc.row
  have hSg : ¬ S g := hc.ctx.locs.2.1
  have hr : ∀ x, Sr x → S x := fun x hx => (h1 x (k2 x hx).1).1
  refine ⟨rfl, hc.leave k3, fun x => x = g ∨ Sr x ∨ So x, fun x hx => ?_, .inl rfl, hc.blk 0 rfl, Sr, So, fun x hx => ⟨⟨.inr (.inl hx), fun e => hSg (e ▸ hr x hx)⟩, (h1 x (k2 x hx).1).2⟩, fun x hx => ⟨⟨.inr (.inr hx), fun e => hSg (e ▸ (h2 x hx).1)⟩, Nat.zero_le _⟩, k4, h4⟩
  have hout : (Sk x → False) → Sa x ∨ w.heap.size ≤ x := fun hn => by
    rcases Nat.lt_or_ge x w.heap.size with hl | hl
    · rcases Classical.em (Sa x) with hs | hs
      · exact .inl hs
      · exact (hn (k3 x hl hs).1).elim
    · exact .inr hl
  rcases hx with rfl | hx | hx
  · exact ⟨hout fun hk => hSg (h1 _ (k1 _ hk).1).1, (hc.blk 0 rfl).lt⟩
  · exact ⟨hout fun hk => (k1 x hk).2 hx, hc.ctx.lt x (hr x hx)⟩
  · exact ⟨hout fun hk => (h1 x (k1 x hk).1).2 hx, hc.ctx.lt x (h2 x hx).1⟩
theorem CtxF.again {w1 : World} (hc : CtxF no (bare w) S w1 [(g, T, cs)] [] (Sep 0 (Sep 0 (Keep w Sa) R) O)) :
    ∃ Sm : Nat → Prop, (∀ x, Sm x → x < w1.heap.size) ∧ (∀ x, x < w.heap.size → ¬ Sa x → ¬ Sm x ∧ w1.heap[x]? = w.heap[x]?) ∧ ObjK g T cs R O Sm w1 ∧ ∀ {w2 : World} {cs' : List Value} {R' O' : Kn} {Sn : Nat → Prop}, Turn Sm w1 w2 → (∀ x, Sn x → (Sm x ∨ w1.heap.size ≤ x) ∧ x < w2.heap.size) → ObjK g T cs' R' O' Sn w2 → Stab R' → Stab O' →
      ∃ S2, CtxF no (bare w) S2 w2 [(g, T, cs')] [] (Sep 0 (Sep 0 (Keep w Sa) R') O') := by
  obtain ⟨S1, So, h1, h2, ⟨Sk, Sr, k1, k2, k3, k4⟩, h4⟩ := hc.row
  have hSg : ¬ S g := hc.ctx.locs.2.1
  have hr : ∀ x, Sr x → S x := fun x hx => (h1 x (k2 x hx).1).1
  have hk : ∀ x, Sk x → S x ∧ ¬ Sr x ∧ ¬ So x ∧ x ≠ g := fun x hx => ⟨(h1 x (k1 x hx).1).1, (k1 x hx).2, (h1 x (k1 x hx).1).2, fun e => hSg (e ▸ (h1 x (k1 x hx).1).1)⟩
  refine ⟨fun x => x = g ∨ Sr x ∨ So x, fun x hx => ?_, fun x hx hn => ?_, ⟨.inl rfl, hc.blk 0 rfl, Sr, So, fun x hx => ⟨⟨.inr (.inl hx), fun e => hSg (e ▸ hr x hx)⟩, (h1 x (k2 x hx).1).2⟩, fun x hx => ⟨⟨.inr (.inr hx), fun e => hSg (e ▸ (h2 x hx).1)⟩, Nat.zero_le _⟩, k4, h4⟩, ?_⟩
  · rcases hx with rfl | hx | hx
    · exact (hc.blk 0 rfl).lt
    · exact hc.ctx.lt x (hr x hx)
    · exact hc.ctx.lt x (h2 x hx).1
  · obtain ⟨i1, i2⟩ := k3 x hx hn
    obtain ⟨a, b, c, d⟩ := hk x i1
    exact ⟨fun e => e.elim d (fun e => e.elim b c), i2⟩
  · intro w2 cs' R' O' Sn hT hSn hO sR sO
    obtain ⟨j1, j2, Sr', So', i1, i2, i3, i4⟩ := hO
    have hnk : ∀ x, Sk x → ¬ Sn x := fun x hx hn => by
      obtain ⟨a, b, c, d⟩ := hk x hx
      have hl := hc.ctx.lt x a
      rcases (hSn x hn).1 with (e | e | e) | e
      · exact d e
      · exact b e
      · exact c e
      · omega
    have hkeep : ∀ x, Sk x → w2.heap[x]? = w1.heap[x]? := fun x hx => by
      obtain ⟨a, b, c, d⟩ := hk x hx
      exact hT.block x (hc.ctx.lt x a) (fun e => e.elim d (fun e => e.elim b c))
    have hklt : ∀ x, Sk x → x < w2.heap.size := fun x hx => heap_lt (hkeep x hx) (hc.ctx.lt x (hk x hx).1)
    refine ⟨fun x => x < w2.heap.size ∧ x ≠ g, ⟨⟨⟨hT.os.trans hc.below.os, hT.tape.trans hc.below.tape, hT.output.trans hc.below.output, Nat.zero_le _, fun k hk => absurd hk (Nat.not_lt_zero _)⟩, fun _ h => h.elim, fun b _ => .inr (Nat.zero_le _), fun x hx => hx.1, ⟨Nat.zero_le _, fun h => h.2 rfl, j2, (fun x hx => by cases hx), trivial⟩⟩, trivial, ?_, Sep.stab (Sep.stab (Keep.stab _ _) sR) sO⟩⟩
    refine ⟨fun x => x < w2.heap.size ∧ ¬ So' x ∧ x ≠ g, So', fun x hx => ⟨⟨hx.1, hx.2.2⟩, hx.2.1⟩, fun x hx => ⟨⟨(hSn x (i2 x hx).1.1).2, (i2 x hx).1.2⟩, Nat.zero_le _⟩, ⟨Sk, Sr', fun x hx => ⟨⟨hklt x hx, fun e => hnk x hx (i2 x e).1.1, (hk x hx).2.2.2⟩, fun e => hnk x hx (i1 x e).1.1⟩, fun x hx => ⟨⟨(hSn x (i1 x hx).1.1).2, (i1 x hx).2, (i1 x hx).1.2⟩, Nat.zero_le _⟩, Keep.stab _ _ _ _ _ _ k3 ⟨fun _ h => h, hkeep⟩, i3⟩, i4⟩
theorem CtxF.mid (hc : CtxF no w0 S w l os (Sep w0.heap.size (Sep n0 K R) O)) (hn : n0 ≤ w0.heap.size) (hK : Stab K) (hR : Stab R) (hO : Stab O) :
    ∃ Sr : Nat → Prop, R Sr w ∧ (∀ x, Sr x → S x) ∧ ∀ {w' : World} {l' : List LB} {R' : Kn}, CtxF no w0 (ext S w w') w' l' os R' ∧ Fut S w (ext S w w') w' → ∀ {X : Kn}, Stab X → X (ext Sr w w') w' → CtxF no w0 (ext S w w') w' l' os (Sep w0.heap.size (Sep n0 K (fun S w => R S w ∧ X S w)) O) := by
  obtain ⟨S1, So, h1, h2, ⟨Sk, Sr, k1, k2, k3, k4⟩, h4⟩ := hc.row
  have hlt : ∀ x, S x → x < w.heap.size := hc.ctx.lt
  have hrS : ∀ x, Sr x → S x := fun x hx => (h1 x (k2 x hx).1).1
  refine ⟨Sr, k4, hrS, fun {w' l' R'} hh {X} hX hx => ?_⟩
  obtain ⟨hc', hf⟩ := hh
  have hnew : ∀ x, w.heap.size ≤ x → S x → False := fun x h1 h2 => absurd (hlt x h2) (by omega)
  refine hc'.now (fun _ => ⟨ext S1 w w', So, fun x hx => ?_, fun x hx => ⟨.inl (h2 x hx).1, (h2 x hx).2⟩, ⟨Sk, ext Sr w w', fun x hx => ⟨.inl (k1 x hx).1, fun h => ?_⟩, fun x hx => ⟨?_, ?_⟩, ?_, ?_, hx⟩, ?_⟩) (Sep.stab (Sep.stab hK (hR.and hX)) hO)
  · rcases hx with hx | hx
    · exact ⟨.inl (h1 x hx).1, (h1 x hx).2⟩
    · exact ⟨.inr hx, fun h => hnew x hx.1 (h2 x h).1⟩
  · rcases h with h | h
    · exact (k1 x hx).2 h
    · exact hnew x h.1 (h1 x (k1 x hx).1).1
  · rcases hx with hx | hx
    · exact .inl (k2 x hx).1
    · exact .inr hx
  · rcases hx with hx | hx
    · exact (k2 x hx).2
    · exact Nat.le_trans hn (Nat.le_trans hc.ctx.below.size hx.1)
  · exact hK _ _ _ _ k3 ⟨fun _ h => h, fun x hx => hf.2 x (h1 x (k1 x hx).1).1⟩
  · exact hR _ _ _ _ k4 ⟨fun _ h => .inl h, fun x hx => hf.2 x (hrS x hx)⟩
  · exact hO _ _ _ _ h4 ⟨fun _ h => h, fun x hx => hf.2 x (h2 x hx).1⟩
theorem CtxF.turnL (hc : CtxF no w0 S w l os R) (k : Nat) (hk : l[k]? = some (g, T, cs)) (hT : Turn (fun x => x = g) w w') (hB : Blk w' g T cs') :
    CtxF no w0 (ext S w w') w' (setLoc l k cs') os R ∧ Fut S w (ext S w w') w' := by
  have hgl : g < w.heap.size := (hc.blk k hk).lt
  have hsz : w.heap.size ≤ w'.heap.size := by
    by_cases e : g = w.heap.size - 1
    · have := hB.lt
      omega
    · have := heap_lt (hT.block (w.heap.size - 1) (by omega) (fun h => e h.symm)) (by omega)
      omega
  have hg : w.grownBy w' (some g) := ⟨hT.os, hT.tape, hT.output, hsz, fun x hx hn => hT.block x hx (fun e => hn (by rw [e]))⟩
  obtain ⟨h1, h2⟩ := hc.ctx.turned k hk hg hB
  have hlow : ∀ x ∈ setLoc l k cs', x.1 < w.heap.size := fun x hx => by
    obtain ⟨y, hy, e⟩ := setLoc_mem hx
    rw [← e]
    exact hc.ctx.locs.lt y hy
  have hf : Fut S w (ext S w w') w' := ⟨fun x hx => .inl hx, h2.2⟩
  refine ⟨⟨⟨h1.below, fun _ h => h.elim, fun x hx => ?_, fun x hx => ?_, h1.locs.mono (fun _ _ => rfl) (fun x hx hs => ?_)⟩, hc.own.step fun o ho a ha => ?_, hc.stab _ _ _ _ hc.row hf, hc.stab⟩, hf⟩
  · rcases hx with hx | hx
    · exact h1.new x hx
    · exact .inr (Nat.le_trans hc.ctx.below.size hx.1)
  · rcases hx with hx | hx
    · exact h1.lt x hx
    · exact hx.2
  · rcases hs with hs | hs
    · exact hs
    · have := hlow x hx
      omega
  · have hO := hc.own.mem o ho
    refine ⟨hT.block _ (hO.lt ha).2 (fun e => (hO.out a ha).2 _ (List.mem_of_getElem? hk) e.symm), fun hs => ?_, fun x hx => ?_⟩
    · rcases hs with hs | hs
      · exact (hO.out a ha).1 hs
      · have := (hO.lt ha).2
        omega
    · obtain ⟨y, hy, e⟩ := setLoc_mem hx
      rw [← e]
      exact (hO.out a ha).2 y hy
end
def isG (x : Nat) : Prop := Go.Proofs.Tryz.prog.globalNamed "internal/strconv.uint64pow10" = some x ∨ Go.Proofs.Tryz.prog.globalNamed "strconv.ErrSyntax" = some x ∨ Go.Proofs.Tryz.prog.globalNamed "strconv.ErrRange" = some x
theorem var_lt {w : World} {n : String} {v : Array Value} (h : w.var? Go.Proofs.Tryz.prog n = some v) {x : Nat} (hx : Go.Proofs.Tryz.prog.globalNamed n = some x) : x < w.heap.size := by
  unfold World.var? at h
  rw [hx, Option.bind_some] at h
  rcases Nat.lt_or_ge x w.heap.size with hl | hl
  · exact hl
  · rw [Array.getElem?_eq_none hl] at h; cases h
theorem var_of {w w' : World} {n : String} {v : Array Value} (h : w.var? Go.Proofs.Tryz.prog n = some v) (hk : ∀ x, Go.Proofs.Tryz.prog.globalNamed n = some x → w'.heap[x]? = w.heap[x]?) : w'.var? Go.Proofs.Tryz.prog n = some v := by
  unfold World.var? at *
  cases hg : Go.Proofs.Tryz.prog.globalNamed n with
  | none => simp [hg] at h
  | some g =>
    simp only [hg, Option.bind_some] at h ⊢
    rw [hk g hg]
    exact h
theorem _root_.Go.Proofs.YtokglimimnelaaaGreatDoor.Env.lt {w : World} (h : Env w) (x : Nat) (hx : isG x) : x < w.heap.size := by
  rcases hx with hx | hx | hx
  · exact var_lt h.tab hx
  · obtain ⟨a, b, c⟩ := h.syn
    exact var_lt c hx
  · obtain ⟨a, b, c⟩ := h.rng
    exact var_lt c hx
theorem _root_.Go.Proofs.YtokglimimnelaaaGreatDoor.Env.of {w w' : World} (h : Env w) (hk : ∀ x, isG x → w'.heap[x]? = w.heap[x]?) : Env w' := by
  obtain ⟨a1, b1, c1⟩ := h.syn
  obtain ⟨a2, b2, c2⟩ := h.rng
  exact ⟨var_of h.tab fun x hx => hk x (.inl hx), ⟨a1, b1, var_of c1 fun x hx => hk x (.inr (.inl hx))⟩, ⟨a2, b2, var_of c2 fun x hx => hk x (.inr (.inr hx))⟩⟩
def EnvFree (G : Nat → Prop) (w : World) : Prop := Env w ∧ ∀ x, isG x → ¬ G x
theorem _root_.Go.Proofs.YtokglimimnelaaaGreatDoor.Env.free {w0 w : World} {G : Nat → Prop} {X : Nat → Prop} (h : Env w0) (hb : Below w0.heap.size w0 w) (hG : ∀ x, G x → X x ∧ w0.heap.size ≤ x) : EnvFree G w :=
  ⟨h.below hb, fun x hx hg => absurd (h.lt x hx) (Nat.not_lt.2 (hG x hg).2)⟩
theorem EnvFree.kept {G G' : Nat → Prop} {w w' : World} (h : EnvFree G w) (hk : ∀ x, x < w.heap.size → ¬ G x → ¬ G' x ∧ w'.heap[x]? = w.heap[x]?) : EnvFree G' w' :=
  ⟨h.1.of fun x hx => (hk x (h.1.lt x hx) (h.2 x hx)).2, fun x hx => (hk x (h.1.lt x hx) (h.2 x hx)).1⟩
theorem EnvFree.sub {G S1 S Sa : Nat → Prop} {w w1 : World} {R : Kn} (h : EnvFree G w) (h3 : Sep 0 (Keep w G) R S1 w1) (h1 : ∀ x, S1 x → S x ∧ ¬ Sa x) : EnvFree Sa w1 := by
  obtain ⟨Sk, Sr, k1, k2, k3, k4⟩ := h3
  exact h.kept fun x hx hg => ⟨(h1 x (k1 x (k3 x hx hg).1).1).2, (k3 x hx hg).2⟩
theorem EnvFree.now {G S : Nat → Prop} {w w1 : World} {l : List LB} {os : List OR} {R O : Kn} (h : EnvFree G w) (hc : CtxF no (bare w) S w1 l os (Sep 0 (Sep 0 (Keep w G) R) O)) : Env w1 := by
  obtain ⟨S1, So, h1, h2, h3, h4⟩ := hc.row
  exact (h.sub h3 h1).1
def RecK (e : Nat) (A : Option Addr) (n cap : Nat) (xs : List Value) : Kn := fun S w => xs.length = n ∧ n ≤ cap ∧ cap ≤ maxLen ∧ (A = none ∧ cap = 0 ∨ ∃ g o cur, A = some ⟨g, o, none⟩ ∧ S g ∧ Blk w g e cur ∧ o + cap ≤ cur.length ∧ (cur.drop o).take n = xs)
theorem RecK.stab (e : Nat) (A : Option Addr) (n cap : Nat) (xs : List Value) : Stab (RecK e A n cap xs) := fun S w S' w' h f => ⟨h.1, h.2.1, h.2.2.1, h.2.2.2.elim .inl fun ⟨g, o, cur, h1, h2, h3, h4⟩ => .inr ⟨g, o, cur, h1, f.1 _ h2, h3.of_eq (f.2 _ h2), h4⟩⟩
theorem RecK.nil (e : Nat) (S : Nat → Prop) (w : World) : RecK e none 0 0 [] S w := ⟨rfl, Nat.le_refl _, Nat.zero_le _, .inl ⟨rfl, rfl⟩⟩
theorem RecK.row {e n cap : Nat} {A : Option Addr} {xs : List Value} {S : Nat → Prop} {w : World} (h : RecK e A n cap xs S w) : Row S w A n cap xs := by
  obtain ⟨h1, h2, h3, h4⟩ := h
  refine ⟨h2, h3, fun hx => ?_⟩
  rcases h4 with ⟨_, h4⟩ | ⟨g, o, cur, rfl, hs, hB, hl, ht⟩
  · exact absurd (List.eq_nil_of_length_eq_zero (by omega)) hx
  · refine ⟨_, rfl, hs, fun j u hu => ?_⟩
    rw [Addr.add_lit, hB.cell]
    rw [← ht, List.getElem?_take] at hu
    split at hu
    · rw [List.getElem?_drop] at hu
      exact hu
    · cases hu
theorem cells_of {w : World} {ad : Addr} : ∀ (ys : List Value) (i : Nat), cellsAt w ad ys i → ∀ j u, ys[j]? = some u → w.cell? (ad.add (i + j)) = some u
  | [], _, _, j, u, h => by cases h
  | v :: r, i, h, j, u, hu => by
    cases j with
    | zero => cases hu; exact h.1
    | succ j => rw [show i + (j + 1) = i + 1 + j from by omega]; exact cells_of r (i + 1) h.2 j u hu
theorem app_rec {P : Program} {w0 w : World} {S : Nat → Prop} {l : List LB} {os : List OR} {R : Kn} {e t T n cap m c bytes : Nat} {A : Option Addr} {cs : Array Bool} {xs ys : List Value} {z : Value} {K : Value → World → Prop}
    (ht : P.underlying t = some (.slice e)) (hi : (P.info? e).map (fun i => (i.zero, i.size, i.bytes)) = some (some z, 1, bytes)) (hzs : z.cells.size = 1)
    (hc : CtxF no w0 S w l os (Sep w0.heap.size R (RecK e A n cap xs))) (hR : Stab R) {ad : Addr} (hy : cellsAt w ad ys 0) (hl : ys.length = m) (hm : 0 < m) (h1 : allOne ys = true) (h63 : n + m ≤ 34359738368) (hby : bytes ≤ 4096)
    (k : ∀ A' cap' w' S', CtxF no w0 S' w' l os (Sep w0.heap.size R (RecK e A' (n + m) cap' (xs ++ ys))) → K (.slice A' (n + m) cap') w') :
    ∃ v w', (builtin .append #[t, t] T cs #[.slice A n cap, .slice (some ad) m c]).run P w = .ok (.value v) w' ∧ K v w' := by
  obtain ⟨i, h2, h3, h4, h5⟩ := info_parts hi
  have hnews : ∀ j u, ys[j]? = some u → w.cell? (ad.add j) = some u := fun j u hu => by have := cells_of ys 0 hy j u hu; rwa [Nat.zero_add] at this
  have hl' : ys.length = m * i.size := by rw [h4, hl, Nat.mul_one]
  have hmax : n + m ≤ maxLen := Nat.le_trans h63 (by decide)
  have hbytes : (n + m) * i.bytes ≤ 140737488355328 := by rw [h5]; exact Nat.le_trans (Nat.mul_le_mul h63 hby) (by decide)
  obtain ⟨S1, Sa, r1, r2, r3, hk1, hk2, hk3, hk4⟩ := hc.row
  have fin : ∀ v w', (Builtin.append_ #[t, t] T #[.slice A n cap, .slice (some ad) m c]).run P w = .ok v w' → (∃ A' cap' Sn, v = .slice A' (n + m) cap' ∧ Turn Sa w w' ∧ (∀ x, Sn x → (Sa x ∨ w.heap.size ≤ x) ∧ x < w'.heap.size) ∧ RecK e A' (n + m) cap' (xs ++ ys) Sn w') → ∃ v w', (builtin .append #[t, t] T cs #[.slice A n cap, .slice (some ad) m c]).run P w = .ok (.value v) w' ∧ K v w' := by
    intro v w' hr hh
    obtain ⟨A', cap', Sn, rfl, hT, hSn, hO⟩ := hh
    refine ⟨_, w', ?_, k A' cap' w' _ (hc.turnO hR r1 r2 r3 hT hSn hO (RecK.stab _ _ _ _ _))⟩
    show (do pure (Next.value (← Builtin.append_ #[t, t] T #[.slice A n cap, .slice (some ad) m c])) : Sem Next).run P w = _
    simp only [Sem.run_bind, hr, Result.andThen_ok, Sem.run_pure]
  have grown : ∀ (old : Nat), old < n + m → ∃ A' cap' Sn, (Value.slice (some ⟨w.heap.size, 0, none⟩) (n + m) (grownCap w (n + m) old e)) = .slice A' (n + m) cap' ∧ Turn Sa w (w.drew.alloc (.cells (xs.toArray ++ ys.toArray ++ Builtin.zeroCells z.cells (grownCap w (n + m) old e - (n + m))) e)) ∧ (∀ x, Sn x → (Sa x ∨ w.heap.size ≤ x) ∧ x < (w.drew.alloc (.cells (xs.toArray ++ ys.toArray ++ Builtin.zeroCells z.cells (grownCap w (n + m) old e - (n + m))) e)).heap.size) ∧ RecK e A' (n + m) cap' (xs ++ ys) Sn (w.drew.alloc (.cells (xs.toArray ++ ys.toArray ++ Builtin.zeroCells z.cells (grownCap w (n + m) old e - (n + m))) e)) := by
    intro old ho
    have hge := grownCap_ge w (n + m) old e
    have hcm : grownCap w (n + m) old e ≤ maxLen := grownCap_le_maxLen w (n + m) old e hmax
    have hsz : (w.drew.alloc (.cells (xs.toArray ++ ys.toArray ++ Builtin.zeroCells z.cells (grownCap w (n + m) old e - (n + m))) e)).heap.size = w.heap.size + 1 := by simp
    have hlen : (xs ++ ys).length = n + m := by rw [List.length_append, hk1, hl]
    refine ⟨_, _, fun x => x = w.heap.size, rfl, ⟨rfl, rfl, rfl, fun x hx _ => heap_alloc_old w.drew _ hx⟩, fun x hx => ⟨.inr (Nat.le_of_eq hx.symm), by rw [hsz]; show x < _; rw [show x = w.heap.size from hx]; omega⟩, hlen, hge, hcm, .inr ⟨w.heap.size, 0, (xs.toArray ++ ys.toArray ++ Builtin.zeroCells z.cells (grownCap w (n + m) old e - (n + m))).toList, rfl, rfl, heap_alloc_new w.drew _, ?_, ?_⟩⟩
    · have e1 : (xs.toArray ++ ys.toArray ++ Builtin.zeroCells z.cells (grownCap w (n + m) old e - (n + m))).toList.length = n + m + (grownCap w (n + m) old e - (n + m)) * 1 := by
        rw [Array.length_toList, Array.size_append, Array.size_append, List.size_toArray, List.size_toArray, size_zeroCells, hzs, hk1, hl]
      rw [e1]
      omega
    · simp only [Array.toList_append, List.append_assoc, List.drop_zero]
      rw [← List.append_assoc, ← hlen]
      exact List.take_left
  rcases hk4 with ⟨rfl, rfl⟩ | ⟨g, o, cur, rfl, hs, hB, hcl, htk⟩
  · have hn : n = 0 := by omega
    subst hn
    have hx : xs = [] := List.eq_nil_of_length_eq_zero hk1
    subst hx
    have hr := run_append_nil (P := P) w t T e i z ht h2 h3 ad m c ys hl' hnews (by omega) (by omega) (by have hb := hbytes; simp only [Nat.zero_add] at hb; omega)
    have hgr := grown 0 (by omega)
    simp only [Nat.zero_add, List.nil_append, Array.empty_append] at hgr fin ⊢
    exact fin _ _ hr hgr
  · by_cases hroom : n + m ≤ cap
    · have hst := run_storeCells_at P g (o + n) e ys 0 cur.toArray w hB (by simp only [List.size_toArray]; omega) (allOne_mem h1)
      have hf := run_firstCells_some (P := P) w i.size m ad m c ys hl' hnews
      rw [h4] at hf
      have hr : (Builtin.append_ #[t, t] T #[.slice (some ⟨g, o, none⟩) n cap, .slice (some ad) m c]).run P w = .ok (.slice (some ⟨g, o, none⟩) (n + m) cap) (w.setRow g (cur.take (o + n) ++ ys ++ cur.drop (o + n + ys.length)).toArray) := by
        simp only [Nat.add_zero] at hst
        simp [Builtin.append_, run_underlying ht, sizeOf, typeInfo, h2, Builtin.lenOf, hroom, hf, Addr.add_lit, h4] at hst ⊢
        show ((Sem.run P (storeCells ⟨g, o + n, none⟩ ys 0) w).andThen fun a w' => Result.ok (Value.slice (some ⟨g, o, none⟩) (n + m) cap) w') = _
        rw [hst]
        rfl
      refine fin _ _ hr ⟨_, _, Sa, rfl, ⟨rfl, rfl, rfl, fun x hx hn => setRow_other w g x _ (fun e => hn (e ▸ hs))⟩, fun x hx => ⟨.inl hx, ?_⟩, by rw [List.length_append, hk1, hl], hroom, hk3, .inr ⟨g, o, cur.take (o + n) ++ ys ++ cur.drop (o + n + ys.length), rfl, hs, setRow_heap w g cur.toArray _ e (0, 0) hB, ?_, ?_⟩⟩
      · have := hc.ctx.lt x (r2 x hx).1
        simpa using this
      · simp only [List.length_append, List.length_take, List.length_drop]
        omega
      · rw [List.append_assoc, List.drop_append_of_le_length (by rw [List.length_take]; omega), List.drop_take, show o + n - o = n from by omega, htk, ← List.append_assoc]
        rw [show n + m = (xs ++ ys).length from by rw [List.length_append, hk1, hl]]
        exact List.take_left
    · have holds : ∀ j u, xs[j]? = some u → w.cell? ((⟨g, o, none⟩ : Addr).add j) = some u := fun j u hu => by
        rw [Addr.add_lit, hB.cell]
        rw [← htk, List.getElem?_take] at hu
        split at hu
        · rw [List.getElem?_drop] at hu
          exact hu
        · cases hu
      have hr := run_append_grow (P := P) w t T e i z ht h2 h3 ⟨g, o, none⟩ n cap xs (by rw [h4, Nat.mul_one]; exact hk1) holds ad m c ys hl' hnews (by omega) (by simp only [maxLen] at hmax; omega) (growslice_fits (by omega) hbytes)
      exact fin _ _ hr (grown cap (by omega))
end Go.Vc
end
namespace Go.Proofs.YtokglimimnelaaaGreatDoor
open Go.Vc Go.RowKit Go.Fl
set_option maxRecDepth 100000
theorem info_D : (Tryz.prog.info? 32).map (fun i => (i.zero, i.size, i.bytes)) = some (some (.agg #[.int .i64 0, .string ⟨#[]⟩, .string ⟨#[]⟩, .int .i64 0, .int .i64 0, .string ⟨#[]⟩, .int .i64 0, .int .i64 0]), 8, 88) := by kernel_rfl
theorem slnil_D (a : Option Addr) (n c : Nat) (ox oy : Operand) (w : World) : (do eqGuard .eql 22 ox oy (.slice a n c) (.slice none 0 0); Go.binOp .eql 22 (.slice a n c) (.slice none 0 0) : Sem Value).run Tryz.prog w = .ok (.bool a.isNone) w := by
  have h := Lib.run_eql_slice_nil (P := Tryz.prog) w 22 32 a n c 0 0 Tryz.underlying22
  simp only [eqGuard]
  simpa using h
theorem cloneD_any (A : Option Addr) (n cap : Nat) (css : List (List Value)) (hF : Flat 8 css) (hn : css.length = n) (hb : n ≤ 1000000) (S : Nat → Prop) (w : World) (hR : Row S w A n cap css.flatten) :
    Calls Tryz.prog 48 #[.slice A n cap] w (RetO 32 8 n css.flatten w) := by
  refine calls_vc lay_ok Tryz.func48 rfl (by kernel_rfl) (by kernel_rfl) ?_
  refine ⟨_, fun w => slnil_D A n cap _ _ w, ?_⟩
  cases A with
  | none =>
    obtain ⟨h0, h1⟩ := Row.cut hR hF (by decide) hn rfl
    subst h0
    rw [h1]
    exact ⟨none, 0, rfl, Below.refl _ _, World.ownsRow_nil _ _ _ _⟩
  | some ad =>
    intro g w1 h1
    have hc := Ctx.start w no (fun _ h => h.elim)
    obtain ⟨hc, hf, ho⟩ := Own.made hc h1 8 0 rfl (Nat.zero_le _)
    refine app_row Tryz.underlying22 info_D rfl (by decide) hc ho (hR.below h1.below) (by rw [hF.len, hn]) hF.ones (by omega) (by decide) ?_
    intro A' cap' w2 hc hf ho _
    rw [Nat.zero_add] at ho ⊢
    rw [List.nil_append] at ho
    exact ⟨A', cap', rfl, hc.below, ho.row⟩
theorem info_S : (Tryz.prog.info? 9).map (fun i => (i.zero, i.size, i.bytes)) = some (some (.string ⟨#[]⟩), 1, 16) := by kernel_rfl
theorem slnil_S (a : Option Addr) (n c : Nat) (ox oy : Operand) (w : World) : (do eqGuard .eql 102 ox oy (.slice a n c) (.slice none 0 0); Go.binOp .eql 102 (.slice a n c) (.slice none 0 0) : Sem Value).run Tryz.prog w = .ok (.bool a.isNone) w := by
  have h := Lib.run_eql_slice_nil (P := Tryz.prog) w 102 9 a n c 0 0 Tryz.underlying102
  simp only [eqGuard]
  simpa using h
theorem cloneS_any (A : Option Addr) (n cap : Nat) (css : List (List Value)) (hF : Flat 1 css) (hn : css.length = n) (hb : n ≤ 1000000) (S : Nat → Prop) (w : World) (hR : Row S w A n cap css.flatten) :
    Calls Tryz.prog 79 #[.slice A n cap] w (RetO 9 1 n css.flatten w) := by
  refine calls_vc lay_ok Tryz.func79 rfl (by kernel_rfl) (by kernel_rfl) ?_
  refine ⟨_, fun w => slnil_S A n cap _ _ w, ?_⟩
  cases A with
  | none =>
    obtain ⟨h0, h1⟩ := Row.cut hR hF (by decide) hn rfl
    subst h0
    rw [h1]
    exact ⟨none, 0, rfl, Below.refl _ _, World.ownsRow_nil _ _ _ _⟩
  | some ad =>
    intro g w1 h1
    have hc := Ctx.start w no (fun _ h => h.elim)
    obtain ⟨hc, hf, ho⟩ := Own.made hc h1 1 0 rfl (Nat.zero_le _)
    refine app_row Tryz.underlying102 info_S rfl (by decide) hc ho (hR.below h1.below) (by rw [hF.len, hn]) hF.ones (by omega) (by decide) ?_
    intro A' cap' w2 hc hf ho _
    rw [Nat.zero_add] at ho ⊢
    rw [List.nil_append] at ho
    exact ⟨A', cap', rfl, hc.below, ho.row⟩
set_option maxRecDepth 100000
theorem hv_hexd {d : Nat} (h : d < 16) : hv (hexd d) = d := by
  unfold hv
  rw [hexd_toNat d h]
  by_cases h1 : d < 10
  · rw [if_pos h1, if_pos (by omega)]
    push_cast
    omega
  · rw [if_neg h1, if_neg (by omega)]
    push_cast
    omega
theorem isHex_hexd {d : Nat} (h : d < 16) : isHex (hexd d) = true := by
  unfold isHex
  rw [hexd_toNat d h, Bool.or_eq_true, Bool.and_eq_true, Bool.and_eq_true]
  simp only [decide_eq_true_eq]
  by_cases h1 : d < 10
  · rw [if_pos h1]
    omega
  · rw [if_neg h1]
    omega
theorem dig_lt (a : Int) (q : Nat) : (a / 2 ^ (12 - 4 * q) % 16).toNat < 16 := by omega
theorem hval_hex4 {a : Int} (h0 : 0 ≤ a) (h1 : a < 65536) : hval (hex4 a) = a := by
  show (((0 * 16 + hv (dig a 0)) * 16 + hv (dig a 1)) * 16 + hv (dig a 2)) * 16 + hv (dig a 3) = a
  unfold dig
  rw [hv_hexd (dig_lt a 0), hv_hexd (dig_lt a 1), hv_hexd (dig_lt a 2), hv_hexd (dig_lt a 3)]
  have e0 : (2 : Int) ^ (12 - 4 * 0) = 4096 := by decide
  have e1 : (2 : Int) ^ (12 - 4 * 1) = 256 := by decide
  have e2 : (2 : Int) ^ (12 - 4 * 2) = 16 := by decide
  have e3 : (2 : Int) ^ (12 - 4 * 3) = 1 := by decide
  rw [e0, e1, e2, e3]
  omega
theorem zRead_text {z : Int × Int} (h : zOk z) : zRead (zText z) = (z, true) := by
  obtain ⟨⟨a0, a1⟩, b0, b1⟩ := h
  have hp : pp (zText z) 8 = z := by
    show (hval (hex4 z.1), hval (hex4 z.2)) = z
    rw [hval_hex4 a0 (by omega), hval_hex4 b0 (by omega)]
  have hall : (zText z).all isHex = true := by
    show ([dig z.1 0, dig z.1 1, dig z.1 2, dig z.1 3, dig z.2 0, dig z.2 1, dig z.2 2, dig z.2 3] : List UInt8).all isHex = true
    unfold dig
    simp only [List.all_cons, List.all_nil, isHex_hexd (dig_lt _ _), Bool.and_true]
  unfold zRead
  rw [hp, if_pos ⟨rfl, hall, a1, b1⟩]
theorem zfront {z : Int × Int} (h : zOk z) (k : Nat) (hk : k < 8) : (zRead ((zText z).take k ++ List.replicate (8 - k) 48)).2 = true := by
  obtain ⟨⟨a0, a1⟩, b0, b1⟩ := h
  have key : ∀ l : List UInt8, l.length = 8 → l.all isHex = true → hval ((l.take 8).take 4) < 65521 → hval ((l.take 8).drop 4) < 65521 → (zRead l).2 = true := fun l h1 h2 h3 h4 => by
    unfold zRead
    rw [if_pos ⟨h1, h2, h3, h4⟩]
  have ha := hval_hex4 a0 (by omega)
  have hb := hval_hex4 b0 (by omega)
  have ex : ∀ a : Int, hval (hex4 a) = (((0 * 16 + hv (dig a 0)) * 16 + hv (dig a 1)) * 16 + hv (dig a 2)) * 16 + hv (dig a 3) := fun _ => rfl
  rw [ex] at ha hb
  have hd : ∀ (a : Int) (q : Nat), 0 ≤ hv (dig a q) ∧ hv (dig a q) < 16 ∧ isHex (dig a q) = true := fun a q => by
    unfold dig
    rw [hv_hexd (dig_lt a q)]
    have := dig_lt a q
    exact ⟨by omega, by omega, isHex_hexd this⟩
  have p0 := hd z.1 0
  have p1 := hd z.1 1
  have p2 := hd z.1 2
  have p3 := hd z.1 3
  have q0 := hd z.2 0
  have q1 := hd z.2 1
  have q2 := hd z.2 2
  have q3 := hd z.2 3
  have h48 : hv 48 = 0 := by decide
  have x48 : isHex 48 = true := by decide
  have e : zText z = [dig z.1 0, dig z.1 1, dig z.1 2, dig z.1 3, dig z.2 0, dig z.2 1, dig z.2 2, dig z.2 3] := rfl
  rw [e]
  generalize dig z.1 0 = c0 at *
  generalize dig z.1 1 = c1 at *
  generalize dig z.1 2 = c2 at *
  generalize dig z.1 3 = c3 at *
  generalize dig z.2 0 = c4 at *
  generalize dig z.2 1 = c5 at *
  generalize dig z.2 2 = c6 at *
  generalize dig z.2 3 = c7 at *
  have hv4 : ∀ a b c d : UInt8, hval [a, b, c, d] = (((0 * 16 + hv a) * 16 + hv b) * 16 + hv c) * 16 + hv d := fun _ _ _ _ => rfl
  rcases (by omega : k = 0 ∨ k = 1 ∨ k = 2 ∨ k = 3 ∨ k = 4 ∨ k = 5 ∨ k = 6 ∨ k = 7) with rfl | rfl | rfl | rfl | rfl | rfl | rfl | rfl
  · refine key [48, 48, 48, 48, 48, 48, 48, 48] rfl (by simp [x48]) ?_ ?_
    · show hval [48, 48, 48, 48] < 65521
      rw [hv4]; omega
    · show hval [48, 48, 48, 48] < 65521
      rw [hv4]; omega
  · refine key [c0, 48, 48, 48, 48, 48, 48, 48] rfl (by simp [x48, p0.2.2]) ?_ ?_
    · show hval [c0, 48, 48, 48] < 65521
      rw [hv4]; omega
    · show hval [48, 48, 48, 48] < 65521
      rw [hv4]; omega
  · refine key [c0, c1, 48, 48, 48, 48, 48, 48] rfl (by simp [x48, p0.2.2, p1.2.2]) ?_ ?_
    · show hval [c0, c1, 48, 48] < 65521
      rw [hv4]; omega
    · show hval [48, 48, 48, 48] < 65521
      rw [hv4]; omega
  · refine key [c0, c1, c2, 48, 48, 48, 48, 48] rfl (by simp [x48, p0.2.2, p1.2.2, p2.2.2]) ?_ ?_
    · show hval [c0, c1, c2, 48] < 65521
      rw [hv4]; omega
    · show hval [48, 48, 48, 48] < 65521
      rw [hv4]; omega
  · refine key [c0, c1, c2, c3, 48, 48, 48, 48] rfl (by simp [x48, p0.2.2, p1.2.2, p2.2.2, p3.2.2]) ?_ ?_
    · show hval [c0, c1, c2, c3] < 65521
      rw [hv4]; omega
    · show hval [48, 48, 48, 48] < 65521
      rw [hv4]; omega
  · refine key [c0, c1, c2, c3, c4, 48, 48, 48] rfl (by simp [x48, p0.2.2, p1.2.2, p2.2.2, p3.2.2, q0.2.2]) ?_ ?_
    · show hval [c0, c1, c2, c3] < 65521
      rw [hv4]; omega
    · show hval [c4, 48, 48, 48] < 65521
      rw [hv4]; omega
  · refine key [c0, c1, c2, c3, c4, c5, 48, 48] rfl (by simp [x48, p0.2.2, p1.2.2, p2.2.2, p3.2.2, q0.2.2, q1.2.2]) ?_ ?_
    · show hval [c0, c1, c2, c3] < 65521
      rw [hv4]; omega
    · show hval [c4, c5, 48, 48] < 65521
      rw [hv4]; omega
  · refine key [c0, c1, c2, c3, c4, c5, c6, 48] rfl (by simp [x48, p0.2.2, p1.2.2, p2.2.2, p3.2.2, q0.2.2, q1.2.2, q2.2.2]) ?_ ?_
    · show hval [c0, c1, c2, c3] < 65521
      rw [hv4]; omega
    · show hval [c4, c5, c6, 48] < 65521
      rw [hv4]; omega
def turnG (t : List UInt8) : ByteArray × Nat × Int :=
  if markedB t = false then (⟨#[]⟩, 0, 3) else if t.length < 8 then (⟨#[]⟩, 0, 2)
  else if (getV (t.drop 8)).2.2 = 2 then (⟨#[]⟩, 0, 2)
  else if (getV (t.drop 8)).2.2 ≠ 0 ∨ vK (getV (t.drop 8)).1 ≠ 2 ∨ leafL (vS (getV (t.drop 8)).1) ≠ t.take (8 + (getV (t.drop 8)).2.1) then (⟨#[]⟩, 0, 3)
  else (vS (getV (t.drop 8)).1, 8 + (getV (t.drop 8)).2.1, 0)
theorem szGo_front : ∀ (l : List UInt8) (i n j : Nat), (∀ c ∈ l, dgt c = true) → i + l.length ≤ 7 → (0 < i → l ≠ [] → 0 < n) → (i = 0 → ∀ c t, l = c :: t → t ≠ [] → c ≠ 48) → szGo (l.take j) i n = (0, 0, 2)
  | [], i, n, j, hd, h7, hn, hz => by rw [List.take_nil]; rfl
  | c :: t, i, n, 0, hd, h7, hn, hz => rfl
  | c :: t, i, n, j + 1, hd, h7, hn, hz => by
    have hc := hd c (by simp)
    have hc' := dgt_iff.1 hc
    simp only [List.length_cons] at h7
    rw [List.take_succ_cons, szGo, if_neg (fun h => by rw [h.1] at hc'; revert hc'; decide), if_neg (fun h => by
      rcases h with h | h | h
      · rw [hc] at h; cases h
      · omega
      · have := hn h.1 (by simp); omega), szGo_front t (i + 1) _ j (fun x hx => hd x (by simp [hx])) (by omega) (fun _ ht => ?_) (fun h => by omega)]
    rcases Nat.eq_zero_or_pos i with h | h
    · have h48 := hz h c t rfl ht
      have : c.toNat ≠ 48 := fun e => h48 (UInt8.toNat_inj.1 e)
      omega
    · have := hn h (by simp); omega
theorem getV_front (v : V) (h : (txtV v).length < 10000000) (j : Nat) (hj : j < (putV v).length) : getV ((putV v).take j) = (V0, 0, 2) := by
  have hlen := putV_len v
  have hd := dec_digits (txtV v).length
  have h7 := dec_len7 h
  have h0 : 0 < (Lib.decDigits (txtV v).length).length := List.length_pos_iff.2 hd.1
  have key : getP 6 ((putV v).take j) = (V0, 0, 2) := by
    rw [putV_eq]
    rcases Nat.lt_or_ge (Lib.decDigits (txtV v).length).length j with hlt | hge
    · have e : (Lib.decDigits (txtV v).length ++ 58 :: (txtV v ++ [endV v])).take j = Lib.decDigits (txtV v).length ++ 58 :: (txtV v ++ [endV v]).take (j - (Lib.decDigits (txtV v).length).length - 1) := by
        rw [List.take_append, List.take_of_length_le (Nat.le_of_lt hlt)]
        congr 1
        obtain ⟨m, hm⟩ : ∃ m, j - (Lib.decDigits (txtV v).length).length = m + 1 := ⟨j - (Lib.decDigits (txtV v).length).length - 1, by omega⟩
        rw [hm, List.take_succ_cons]
        rfl
      rw [e]
      have hs := szGo_put (Lib.decDigits (txtV v).length) ((txtV v ++ [endV v]).take (j - (Lib.decDigits (txtV v).length).length - 1)) 0 0 hd.2.1 (by omega) (by omega) (fun h => by omega) (fun _ => hd.2.2.2)
      rw [hd.2.2.1, Nat.zero_add] at hs
      unfold getP
      rw [hs]
      simp only [ne_eq, not_true_eq_false, if_false]
      rw [if_pos]
      rw [List.length_append, List.length_cons, List.length_take, List.length_append]
      simp only [List.length_cons, List.length_nil]
      omega
    · have hs := szGo_front (Lib.decDigits (txtV v).length) 0 0 j hd.2.1 (by omega) (fun h => by omega) (fun _ => hd.2.2.2)
      rw [List.take_append_of_le_length hge]
      unfold getP
      rw [hs]
      rfl
  unfold getV
  rw [key]
  rfl
theorem putS_str (s : ByteArray) (h : s.size ≤ 400000) : putS (vStr s) = putV (vStr s) := by
  have h7 : (Lib.decDigits (txtV (vStr s)).length).length ≤ 7 := dec_len7 (show s.data.toList.length < _ by rw [Array.length_toList]; show s.size < _; omega)
  have hm : mayV (vStr s) = true := by kernel_rfl
  unfold putS
  rw [hm, decide_eq_true h7]
  rfl
theorem leafL_eq (s : ByteArray) (h : s.size ≤ 400000) : leafL s = markL s.data.toList ++ putV (vStr s) := by
  unfold leafL
  rw [if_neg (by omega), putS_str s h]
theorem leaf_pos (s : ByteArray) (h : s.size ≤ 400000) : 10 ≤ (leafL s).length := by
  rw [leafL_eq s h, List.length_append, markL_len]
  have h1 := putV_len (vStr s)
  have h2 := List.length_pos_iff.2 (dec_digits (txtV (vStr s)).length).1
  omega
theorem markedB_leaf (s : List UInt8) (r : List UInt8) : markedB (markL s ++ r) = true := by
  have hl := markL_len s
  unfold markedB
  rw [List.take_append_of_le_length (by omega), List.take_of_length_le (by omega), List.length_append, show 8 - ((markL s).length + r.length) = 0 from by omega]
  show (zRead (markL s ++ [])).2 = true
  rw [List.append_nil]
  unfold markL
  rw [zRead_text (zOn_ok _ _ ⟨by decide, by decide⟩)]
theorem drop8 (s r : List UInt8) : (markL s ++ r).drop 8 = r := by
  have hl := markL_len s
  rw [List.drop_append_of_le_length (by omega), List.drop_of_length_le (by omega), List.nil_append]
theorem turnG_leaf (s : ByteArray) (h : s.size ≤ 400000) (r : List UInt8) : turnG (leafL s ++ r) = (s, (leafL s).length, 0) := by
  have hl := markL_len s.data.toList
  have ht : (txtV (vStr s)).length < 10000000 := show s.data.toList.length < _ by rw [Array.length_toList]; show s.size < _; omega
  have hm : mayV (vStr s) = true := by kernel_rfl
  have hg : getV (putV (vStr s) ++ r) = (vStr s, (putV (vStr s)).length, 0) := by
    unfold getV
    rw [getP_put 6 (vStr s) (by unfold mayV at hm; exact of_decide_eq_true hm) ⟨⟨by decide, by decide⟩, trivial⟩ ht r]
    simp only [hm]
    rfl
  have hlen : (leafL s).length = 8 + (putV (vStr s)).length := by rw [leafL_eq s h, List.length_append, hl]
  unfold turnG
  rw [leafL_eq s h, List.append_assoc, markedB_leaf, drop8, hg, if_neg (by decide), if_neg (by rw [List.length_append]; omega)]
  simp only
  rw [if_neg (by decide), if_neg]
  · show (s, 8 + _, _) = _
    rw [List.length_append, hl]
  · rintro (e | e | e)
    · exact e rfl
    · exact e rfl
    · apply e
      show leafL s = _
      rw [leafL_eq s h, ← List.append_assoc, List.take_left' (by rw [List.length_append, hl])]
theorem turnG_front (s : ByteArray) (h : s.size ≤ 400000) (k : Nat) (hk : k < (leafL s).length) : (turnG ((leafL s).take k)).2.2 = 2 := by
  have hl := markL_len s.data.toList
  have ht : (txtV (vStr s)).length < 10000000 := show s.data.toList.length < _ by rw [Array.length_toList]; show s.size < _; omega
  have hlen : (leafL s).length = 8 + (putV (vStr s)).length := by rw [leafL_eq s h, List.length_append, hl]
  rcases Nat.lt_or_ge k 8 with h8 | h8
  · have e : (leafL s).take k = (markL s.data.toList).take k := by rw [leafL_eq s h, List.take_append_of_le_length (by omega)]
    have hlk : ((markL s.data.toList).take k).length = k := by rw [List.length_take]; omega
    have hm : markedB ((markL s.data.toList).take k) = true := by
      unfold markedB
      rw [hlk, List.take_of_length_le (by omega)]
      exact zfront (zOn_ok _ _ ⟨by decide, by decide⟩) k h8
    unfold turnG
    rw [e, hm, if_neg (by decide), if_pos (by omega)]
  · have e : (leafL s).take k = markL s.data.toList ++ (putV (vStr s)).take (k - 8) := by
      rw [leafL_eq s h, List.take_append, List.take_of_length_le (by omega), hl]
    have hg := getV_front (vStr s) ht (k - 8) (by omega)
    unfold turnG
    rw [e, markedB_leaf, drop8, hg, if_neg (by decide)]
    split <;> rfl
def leavesL : List ByteArray → List UInt8
  | [] => []
  | s :: r => leafL s ++ leavesL r
theorem leavesL_append : ∀ a b : List ByteArray, leavesL (a ++ b) = leavesL a ++ leavesL b
  | [], b => rfl
  | s :: r, b => by rw [List.cons_append, leavesL, leavesL, leavesL_append r b, List.append_assoc]
def Splits : List UInt8 → List ByteArray → Nat → Prop
  | t, [], at_ => at_ = 0 ∧ (t = [] ∨ (turnG t).2.2 = 2)
  | t, x :: xs, at_ => ∃ n a, turnG t = (x, n, 0) ∧ 0 < n ∧ n ≤ t.length ∧ at_ = n + a ∧ Splits (t.drop n) xs a
theorem Splits.leaves : ∀ (l : List ByteArray) (p : List UInt8), (∀ x ∈ l, x.size ≤ 400000) → (p = [] ∨ (turnG p).2.2 = 2) → Splits (leavesL l ++ p) l (leavesL l).length
  | [], p, _, hp => ⟨rfl, hp⟩
  | s :: r, p, hl, hp => by
    have hs := hl s (List.mem_cons_self ..)
    have h10 := leaf_pos s hs
    refine ⟨(leafL s).length, (leavesL r).length, ?_, by omega, ?_, ?_, ?_⟩
    · rw [leavesL, List.append_assoc]
      exact turnG_leaf s hs _
    · rw [leavesL, List.append_assoc, List.length_append]
      omega
    · rw [leavesL, List.length_append]
    · rw [leavesL, List.append_assoc, List.drop_left' rfl]
      exact Splits.leaves r p (fun x hx => hl x (List.mem_cons_of_mem _ hx)) hp
theorem leaves_take : ∀ (l : List ByteArray) (k : Nat), (∀ x ∈ l, x.size ≤ 400000) → ∃ m p, m ≤ l.length ∧ (leavesL l).take k = leavesL (l.take m) ++ p ∧ (p = [] ∨ (turnG p).2.2 = 2) ∧ (leavesL (l.take m)).length ≤ k ∧ ∀ j, j ≤ l.length → (leavesL (l.take j)).length ≤ k → j ≤ m
  | [], k, _ => ⟨0, [], Nat.le_refl _, by simp [leavesL], .inl rfl, Nat.zero_le _, fun j hj _ => hj⟩
  | s :: r, k, hl => by
    have hs := hl s (List.mem_cons_self ..)
    have h10 := leaf_pos s hs
    rcases Nat.lt_or_ge k (leafL s).length with hk | hk
    · refine ⟨0, (leafL s).take k, Nat.zero_le _, ?_, .inr (turnG_front s hs k hk), Nat.zero_le _, fun j hj hjk => ?_⟩
      · rw [leavesL, List.take_append_of_le_length (Nat.le_of_lt hk)]
        rfl
      · cases j with
        | zero => exact Nat.le_refl _
        | succ j =>
          rw [List.take_succ_cons, leavesL, List.length_append] at hjk
          omega
    · obtain ⟨m, p, h1, h2, h3, h4, h5⟩ := leaves_take r (k - (leafL s).length) (fun x hx => hl x (List.mem_cons_of_mem _ hx))
      refine ⟨m + 1, p, by rw [List.length_cons]; omega, ?_, h3, ?_, fun j hj hjk => ?_⟩
      · rw [leavesL, List.take_append, List.take_of_length_le hk, h2, List.take_succ_cons, leavesL, List.append_assoc]
      · rw [List.take_succ_cons, leavesL, List.length_append]
        omega
      · cases j with
        | zero => exact Nat.zero_le _
        | succ j =>
          rw [List.take_succ_cons, leavesL, List.length_append] at hjk
          have := h5 j (by rw [List.length_cons] at hj; omega) (by omega)
          omega
set_option maxRecDepth 100000
theorem doS_next {s : Stt} {d : D} (h : mayS s = true) (hd : mayD d = true) (hq : s.seq < maxN) : (doS s d).1.seq = s.seq + 1 := by
  rw [doS_F h hd hq]
  unfold doF
  split
  · rfl
  split
  · rfl
  split
  · rfl
  simp only
  split <;> rfl
theorem foldS_next : ∀ (l : List D) {s : Stt}, mayS s = true → s.lows.length = 5 → (∀ d ∈ l, mayD d = true) → s.seq + l.length ≤ maxN → (foldS s l).seq = s.seq + l.length
  | [], s, h, h5, hd, hq => by show s.seq = s.seq + ((0 : Nat) : Int); omega
  | d :: r, s, h, h5, hd, hq => by
    rw [List.length_cons] at hq
    have e := doS_next h (hd d (List.mem_cons_self ..)) (by omega)
    have ih := foldS_next r (mayS_doS (d := d) h5 h) (doS_lows5 d h5) (fun x hx => hd x (List.mem_cons_of_mem _ hx)) (by omega)
    show (foldS (doS s d).1 r).seq = _
    rw [ih, e, List.length_cons]
    omega
def resS : Stt → List D → List Res
  | _, [] => []
  | s, d :: r => (doS s d).2 :: resS (doS s d).1 r
theorem resS_len : ∀ (s : Stt) (l : List D), (resS s l).length = l.length
  | _, [] => rfl
  | s, d :: r => by rw [resS, List.length_cons, List.length_cons, resS_len]
structure Known where
  b : Stt
  pend : List D
  ep : Int
  ln : Int
def Known0 : Known := ⟨Stt0, [], 0, 0⟩
def Known.seq (k : Known) : Int := k.b.seq + k.pend.length
structure Known.Ok (k : Known) : Prop where
  may : mayS k.b = true
  lows : k.b.lows.length = 5
  pend : ∀ d ∈ k.pend, mayD d = true ∧ d.Ok
  len : k.pend.length ≤ 60
  seq : k.b.seq + k.pend.length ≤ maxN
  ep : i64ok k.ep
  ln : i64ok k.ln
theorem Known0.ok : Known0.Ok := ⟨by kernel_rfl, rfl, (fun d hd => by cases hd), Nat.zero_le _, by decide, by unfold i64ok; decide, by unfold i64ok; decide⟩
def vKnown (k : Known) : V := vRow [vStr ⟨(putStt k.b).toArray⟩, vRow (k.pend.map valD'), vNum k.ep, vNum k.ln]
def textK (k : Known) : List UInt8 := putS (vKnown k)
theorem valD_may {d : D} (h : mayD d = true) : valD' d = vDeed d := by rw [valD', if_pos h]
theorem cnt_deed (f : Nat) (d : D) : cnt (f + 2) (vDeed d) = 9 := by simp [vDeed, cnt_row, cnt_num, cnt_str, cntL]
theorem mayV_known {k : Known} (h : k.Ok) : mayV (vKnown k) = true := by
  have hl := h.len
  have h1 := cntL_bound (cnt 4) (fun v => (cnt_range 4 v).1) 9 (k.pend.map valD') 1 (fun x hx => by
    obtain ⟨d, hd, rfl⟩ := List.mem_map.1 hx
    rw [valD_may (h.pend d hd).1, cnt_deed]; decide) (by rw [List.length_map]; omega)
  rw [List.length_map] at h1
  rw [mayV, decide_eq_true_eq, vKnown, cnt_row, cntL_cons, cnt_str, if_neg (by decide), cntL_cons, cnt_row, if_neg (by omega), cntL_cons, cnt_num, if_neg (by omega), cntL_cons, cnt_num, if_neg (by omega), cntL]
  omega
theorem putStt_len9 {s : Stt} (h5 : s.lows.length = 5) (h : mayS s = true) : (putStt s).length ≤ 200009 := by
  have h1 := txt_vStt s h5 h
  have h2 := dec_len7 (u := (txtV (vStt s)).length) (by omega)
  rw [putStt_may s h5 h, putV_len]
  omega
theorem putV_deed {d : D} (hk : d.Ok) (h : mayD d = true) : (putV (vDeed d)).length ≤ 1009 := by
  have h1 := txt_vDeed d hk h
  have h2 := dec_len7 (u := (txtV (vDeed d)).length) (by omega)
  rw [putV_len]
  omega
theorem txt_known {k : Known} (h : k.Ok) : (txtV (vKnown k)).length ≤ 270000 := by
  have b1 := putL_bound 1009 (k.pend.map valD') fun x hx => by
    obtain ⟨d, hd, rfl⟩ := List.mem_map.1 hx
    rw [valD_may (h.pend d hd).1]
    exact putV_deed (h.pend d hd).2 (h.pend d hd).1
  rw [List.length_map] at b1
  have hl := h.len
  have c1 := putV_row (k.pend.map valD') 60540 (by omega) (by decide)
  have c2 := putStt_len9 h.lows h.may
  have c3 := putV_str ⟨(putStt k.b).toArray⟩ (by show (putStt k.b).toArray.size < _; rw [List.size_toArray]; omega)
  have e3 : (⟨(putStt k.b).toArray⟩ : ByteArray).size = (putStt k.b).length := List.size_toArray ..
  have c4 := putV_num k.ep h.ep
  have c5 := putV_num k.ln h.ln
  rw [vKnown, txt_row]
  simp only [putL, List.length_append, List.length_nil]
  omega
theorem okV_valD {d : D} (hk : d.Ok) (h : mayD d = true) : okV (valD' d) := by rw [valD_may h]; exact okV_vDeed d hk
theorem okV_known {k : Known} (h : k.Ok) : okV (vKnown k) := by
  refine okV_row _ ?_
  simp only [okL]
  exact ⟨okV_str _, okV_row _ (okL_map _ _ fun d hd => okV_valD (h.pend d hd).2 (h.pend d hd).1), okV_num _ h.ep, okV_num _ h.ln, trivial⟩
theorem putS_put {v : V} (h : mayV v = true) (hl : (txtV v).length < 10000000) : putS v = putV v := by
  have := dec_len7 hl
  rw [putS, h]
  simp [this]
theorem textK_eq {k : Known} (h : k.Ok) : textK k = putV (vKnown k) := putS_put (mayV_known h) (by have := txt_known h; omega)
theorem textK_len {k : Known} (h : k.Ok) : (textK k).length ≤ 270009 := by
  have h1 := txt_known h
  have h2 := dec_len7 (u := (txtV (vKnown k)).length) (by omega)
  rw [textK_eq h, putV_len]
  omega
theorem textK_ne {k : Known} (h : k.Ok) : textK k ≠ [] := by rw [textK_eq h]; exact putV_ne _
theorem allV_textK {k : Known} (h : k.Ok) : allV (textK k) = (vKnown k, 0) := by
  rw [textK_eq h]
  exact allV_put _ (mayV_known h) (okV_known h) (by have := txt_known h; omega)
def FirstOk (s : ByteArray) (k : Known) : Prop := (s = ⟨#[]⟩ ∧ k = Known0) ∨ (s = ⟨(textK k).toArray⟩ ∧ k.Ok)
theorem FirstOk.ok {s : ByteArray} {k : Known} (h : FirstOk s k) : k.Ok := by
  rcases h with ⟨_, rfl⟩ | ⟨_, h⟩
  · exact Known0.ok
  · exact h
theorem FirstOk.size {s : ByteArray} {k : Known} (h : FirstOk s k) : s.size ≤ 270009 := by
  rcases h with ⟨rfl, _⟩ | ⟨rfl, h⟩
  · decide
  · show (textK k).toArray.size ≤ _
    rw [List.size_toArray]
    exact textK_len h
inductive Rc where
  | add (d : D)
  | done (n : Int)
  | enter (n : Int)
def vRc : Rc → V
  | .add d => vRow [vNum 1, valD' d]
  | .done n => vRow [vNum 2, vNum n]
  | .enter n => vRow [vNum 3, vNum n]
def txtR (r : Rc) : ByteArray := ⟨(putS (vRc r)).toArray⟩
def Rc.Ok : Rc → Prop
  | .add d => mayD d = true ∧ d.Ok
  | .done n => i64ok n
  | .enter n => i64ok n
theorem vRc_facts {r : Rc} (h : r.Ok) : mayV (vRc r) = true ∧ (txtV (vRc r)).length ≤ 1100 ∧ okV (vRc r) := by
  have n1 := putV_num 1 (by unfold i64ok; decide)
  have n2 := putV_num 2 (by unfold i64ok; decide)
  have n3 := putV_num 3 (by unfold i64ok; decide)
  have o1 : i64ok 1 := by unfold i64ok; decide
  have o2 : i64ok 2 := by unfold i64ok; decide
  have o3 : i64ok 3 := by unfold i64ok; decide
  cases r with
  | add d =>
    obtain ⟨h1, h2⟩ := h
    have hd := putV_deed h2 h1
    refine ⟨?_, ?_, okV_row _ ?_⟩
    · rw [mayV, decide_eq_true_eq, vRc, valD_may h1, cnt_row, cntL_cons, cnt_num, if_neg (by decide), cntL_cons, cnt_deed, if_neg (by decide), cntL]
      decide
    · rw [vRc, valD_may h1, txt_row]
      simp only [putL, List.length_append, List.length_nil]
      omega
    · simp only [okL]
      exact ⟨okV_num _ o1, okV_valD h2 h1, trivial⟩
  | done n =>
    have h : i64ok n := h
    have hd := putV_num n h
    refine ⟨?_, ?_, okV_row _ ?_⟩
    · rw [mayV, decide_eq_true_eq, vRc, cnt_row, cntL_cons, cnt_num, if_neg (by decide), cntL_cons, cnt_num, if_neg (by decide), cntL]
      decide
    · rw [vRc, txt_row]
      simp only [putL, List.length_append, List.length_nil]
      omega
    · simp only [okL]
      exact ⟨okV_num _ o2, okV_num _ h, trivial⟩
  | enter n =>
    have h : i64ok n := h
    have hd := putV_num n h
    refine ⟨?_, ?_, okV_row _ ?_⟩
    · rw [mayV, decide_eq_true_eq, vRc, cnt_row, cntL_cons, cnt_num, if_neg (by decide), cntL_cons, cnt_num, if_neg (by decide), cntL]
      decide
    · rw [vRc, txt_row]
      simp only [putL, List.length_append, List.length_nil]
      omega
    · simp only [okL]
      exact ⟨okV_num _ o3, okV_num _ h, trivial⟩
theorem putS_rc {r : Rc} (h : r.Ok) : putS (vRc r) = putV (vRc r) := by
  obtain ⟨h1, h2, _⟩ := vRc_facts h
  exact putS_put h1 (by omega)
theorem putV_rc {r : Rc} (h : r.Ok) : (putV (vRc r)).length ≤ 1109 := by
  obtain ⟨h1, h2, _⟩ := vRc_facts h
  have h3 := dec_len7 (u := (txtV (vRc r)).length) (by omega)
  rw [putV_len]
  omega
theorem txtR_size {r : Rc} (h : r.Ok) : (txtR r).size ≤ 1109 := by
  show (putS (vRc r)).toArray.size ≤ _
  rw [List.size_toArray, putS_rc h]
  exact putV_rc h
theorem allV_rc {r : Rc} (h : r.Ok) : allV (putS (vRc r)) = (vRc r, 0) := by
  obtain ⟨h1, h2, h3⟩ := vRc_facts h
  rw [putS_rc h]
  exact allV_put _ h1 h3 (by omega)
def commitK (k : Known) (n : Int) : Known × List Res :=
  (⟨foldS k.b (k.pend.take (n - k.b.seq).toNat), k.pend.drop (n - k.b.seq).toNat, k.ep, k.ln⟩, resS k.b (k.pend.take (n - k.b.seq).toNat))
def stepK (k : Known) : Rc → Known
  | .add d => ⟨k.b, k.pend ++ [d], k.ep, k.ln⟩
  | .done n => (commitK k n).1
  | .enter n => ⟨k.b, k.pend, max k.ep n, k.ln⟩
def canR (k : Known) : Rc → Prop
  | .add d => k.pend.length < 60 ∧ k.seq < maxN
  | .done n => n ≤ k.seq
  | .enter n => True
theorem Known.Ok.commit {k : Known} (h : k.Ok) (n : Int) : (commitK k n).1.Ok := by
  have hp : ∀ d ∈ k.pend.take (n - k.b.seq).toNat, mayD d = true := fun d hd => (h.pend d (List.mem_of_mem_take hd)).1
  obtain ⟨a, b, _⟩ := foldS_ok (k.pend.take (n - k.b.seq).toNat) h.may h.lows
  have hs := h.seq
  have hlen : (k.pend.take (n - k.b.seq).toNat).length + (k.pend.drop (n - k.b.seq).toNat).length = k.pend.length := by rw [← List.length_append, List.take_append_drop]
  have e := foldS_next (k.pend.take (n - k.b.seq).toNat) h.may h.lows hp (by omega)
  refine ⟨a, b, fun d hd => h.pend d (List.mem_of_mem_drop hd), ?_, ?_, h.ep, h.ln⟩
  · have := h.len
    show (k.pend.drop _).length ≤ 60
    omega
  · show (foldS k.b (k.pend.take (n - k.b.seq).toNat)).seq + ((k.pend.drop (n - k.b.seq).toNat).length : Int) ≤ maxN
    rw [e]
    omega
theorem Known.Ok.step {k : Known} (h : k.Ok) {r : Rc} (hr : r.Ok) (hc : canR k r) : (stepK k r).Ok := by
  cases r with
  | add d =>
    obtain ⟨h1, h2⟩ := hc
    unfold Known.seq at h2
    refine ⟨h.may, h.lows, fun x hx => ?_, ?_, ?_, h.ep, h.ln⟩
    · rcases List.mem_append.1 hx with hx | hx
      · exact h.pend x hx
      · rw [List.mem_singleton.1 hx]
        exact hr
    · show (k.pend ++ [d]).length ≤ 60
      rw [List.length_append]
      exact h1
    · show k.b.seq + ((k.pend ++ [d]).length : Int) ≤ maxN
      rw [List.length_append]
      simp only [List.length_cons, List.length_nil]
      omega
  | done n => exact h.commit n
  | enter n =>
    refine ⟨h.may, h.lows, h.pend, h.len, h.seq, ?_, h.ln⟩
    have h1 := h.ep
    have h2 : i64ok n := hr
    unfold i64ok at *
    show -_ ≤ max k.ep n ∧ max k.ep n ≤ _
    omega
def foldK (k : Known) (l : List Rc) : Known := l.foldl stepK k
theorem foldK_snoc (k : Known) (l : List Rc) (r : Rc) : foldK k (l ++ [r]) = stepK (foldK k l) r := by
  unfold foldK
  rw [List.foldl_append]
  rfl
def Can : Known → List Rc → Prop
  | _, [] => True
  | k, r :: l => r.Ok ∧ canR k r ∧ Can (stepK k r) l
theorem Can.ok : ∀ {l : List Rc} {k : Known}, k.Ok → Can k l → (foldK k l).Ok
  | [], k, hk, _ => hk
  | r :: l, k, hk, ⟨h1, h2, h3⟩ => Can.ok (l := l) (hk.step h1 h2) h3
theorem Can.snoc : ∀ {l : List Rc} {k : Known} {r : Rc}, Can k l → r.Ok → canR (foldK k l) r → Can k (l ++ [r])
  | [], k, r, _, h1, h2 => ⟨h1, h2, trivial⟩
  | x :: l, k, r, ⟨a, b, c⟩, h1, h2 => ⟨a, b, Can.snoc c h1 h2⟩
theorem Can.take : ∀ {l : List Rc} {k : Known} (i : Nat), Can k l → Can k (l.take i)
  | [], k, i, _ => by rw [List.take_nil]; trivial
  | x :: l, k, 0, _ => trivial
  | x :: l, k, i + 1, ⟨a, b, c⟩ => ⟨a, b, Can.take i c⟩
theorem Can.mem : ∀ {l : List Rc} {k : Known}, Can k l → ∀ r ∈ l, r.Ok
  | x :: l, k, ⟨a, b, c⟩, r, hr => by
    cases hr with
    | head => exact a
    | tail _ h => exact Can.mem c r h
set_option maxRecDepth 100000
structure Sh where
  tot : Int
  first : ByteArray
  base : Known
  l : List Rc
  np : Nat
  kept : Bool
  down : Bool
def Sh.texts (H : Sh) : List ByteArray := H.first :: H.l.map txtR
def Sh.txt (H : Sh) : List UInt8 := leavesL H.texts
def Sh.room (H : Sh) : Int := H.tot - H.txt.length
def Sh.k (H : Sh) : Known := foldK H.base H.l
def Sh.scr (H : Sh) : Scroll := ⟨⟨H.txt.toArray⟩, ((leavesL (H.texts.take (1 + H.np))).length : Nat), H.kept⟩
structure Sh.Ok (H : Sh) : Prop where
  first : FirstOk H.first H.base
  can : Can H.base H.l
  np : H.np ≤ H.l.length
  tot : H.tot ≤ 1048576
  room : 0 ≤ H.room
theorem Sh.Ok.k {H : Sh} (h : H.Ok) : H.k.Ok := Can.ok h.first.ok h.can
theorem Sh.Ok.size {H : Sh} (h : H.Ok) : (H.txt.length : Int) ≤ 1048576 := by
  have h1 := h.tot
  have h2 := h.room
  unfold Sh.room at h2
  omega
theorem Sh.Ok.sizes {H : Sh} (h : H.Ok) : ∀ x ∈ H.texts, x.size ≤ 400000 := fun x hx => by
  cases hx with
  | head => have := h.first.size; omega
  | tail _ hx =>
    obtain ⟨r, hr, rfl⟩ := List.mem_map.1 hx
    have := txtR_size (Can.mem h.can r hr)
    omega
theorem leavesL_take_le (l : List ByteArray) (i : Nat) : (leavesL (l.take i)).length ≤ (leavesL l).length := by
  have e : leavesL l = leavesL (l.take i) ++ leavesL (l.drop i) := by rw [← leavesL_append, List.take_append_drop]
  rw [e, List.length_append]
  omega
theorem leavesL_snoc (l : List ByteArray) (s : ByteArray) : leavesL (l ++ [s]) = leavesL l ++ leafL s := by
  rw [leavesL_append]
  show _ ++ (leafL s ++ []) = _
  rw [List.append_nil]
def leafN (s : ByteArray) : Int := ((leafL s).length : Nat)
theorem leafN_le (s : ByteArray) (h : s.size ≤ 400000) : 10 ≤ leafN s ∧ leafN s ≤ s.size + 17 := by
  have h1 := leaf_pos s h
  have h2 := putV_str s (by omega)
  unfold leafN
  rw [leafL_eq s h, List.length_append, markL_len] at *
  omega
def Sh.write (H : Sh) (r : Rc) (press : Bool) : Sh := ⟨H.tot, H.first, H.base, H.l ++ [r], if press then H.l.length + 1 else H.np, H.kept || press, H.down⟩
def Sh.fell (H : Sh) : Sh := ⟨H.tot, H.first, H.base, H.l, H.np, H.kept, true⟩
theorem Sh.write_texts (H : Sh) (r : Rc) (p : Bool) : (H.write r p).texts = H.texts ++ [txtR r] := by
  show H.first :: (H.l ++ [r]).map txtR = H.first :: H.l.map txtR ++ [txtR r]
  rw [List.map_append]
  rfl
theorem Sh.write_txt (H : Sh) (r : Rc) (p : Bool) : (H.write r p).txt = H.txt ++ leafL (txtR r) := by
  unfold Sh.txt
  rw [Sh.write_texts, leavesL_snoc]
theorem Sh.write_room (H : Sh) (r : Rc) (p : Bool) : (H.write r p).room = H.room - leafN (txtR r) := by
  unfold Sh.room leafN
  rw [Sh.write_txt, List.length_append]
  show H.tot - _ = _
  omega
theorem Sh.write_k (H : Sh) (r : Rc) (p : Bool) : (H.write r p).k = stepK H.k r := foldK_snoc _ _ _
theorem Sh.Ok.write {H : Sh} (h : H.Ok) {r : Rc} (hr : r.Ok) (hc : canR H.k r) (p : Bool) (hroom : leafN (txtR r) ≤ H.room) : (H.write r p).Ok := by
  refine ⟨h.first, Can.snoc h.can hr hc, ?_, h.tot, ?_⟩
  · have := h.np
    show (if p then H.l.length + 1 else H.np) ≤ (H.l ++ [r]).length
    rw [List.length_append]
    simp only [List.length_cons, List.length_nil]
    split <;> omega
  · rw [Sh.write_room]
    omega
theorem Sh.Ok.fell {H : Sh} (h : H.Ok) : H.fell.Ok := ⟨h.first, h.can, h.np, h.tot, h.room⟩
theorem Sh.write_pressed {H : Sh} (h : H.Ok) (r : Rc) (p : Bool) : ((H.write r p).scr).pressed = if p then ((H.txt ++ leafL (txtR r)).length : Int) else H.scr.pressed := by
  show ((leavesL ((H.write r p).texts.take (1 + if p then H.l.length + 1 else H.np))).length : Int) = _
  rw [Sh.write_texts]
  have hlen : H.texts.length = H.l.length + 1 := by
    show (H.first :: H.l.map txtR).length = _
    rw [List.length_cons, List.length_map]
  cases p with
  | true =>
    rw [if_pos rfl, if_pos rfl, List.take_of_length_le (by rw [List.length_append, hlen]; simp only [List.length_cons, List.length_nil]; omega), leavesL_snoc]
    rfl
  | false =>
    have := h.np
    rw [if_neg (by decide), if_neg (by decide), List.take_append_of_le_length (by omega)]
    rfl
theorem Sh.scr_le {H : Sh} : 0 ≤ H.scr.pressed ∧ H.scr.pressed ≤ H.txt.length := by
  have := leavesL_take_le H.texts (1 + H.np)
  show 0 ≤ ((leavesL (H.texts.take (1 + H.np))).length : Int) ∧ ((leavesL (H.texts.take (1 + H.np))).length : Int) ≤ ((leavesL H.texts).length : Int)
  omega
def Sh.lay (H : Sh) (k : Known) : Sh := ⟨H.tot, ⟨(textK k).toArray⟩, k, [], 0, true, H.down⟩
theorem Sh.lay_txt (H : Sh) (k : Known) : (H.lay k).txt = leafL ⟨(textK k).toArray⟩ := by
  show leafL ⟨(textK k).toArray⟩ ++ [] = _
  rw [List.append_nil]
theorem Sh.Ok.lay {H : Sh} (h : H.Ok) {k : Known} (hk : k.Ok) (hroom : leafN ⟨(textK k).toArray⟩ ≤ H.room) : (H.lay k).Ok := by
  refine ⟨.inr ⟨rfl, hk⟩, trivial, Nat.le_refl _, h.tot, ?_⟩
  show 0 ≤ H.tot - ((H.lay k).txt.length : Int)
  rw [Sh.lay_txt]
  unfold Sh.room leafN at hroom
  omega
def Sh.cut (H : Sh) (i : Nat) : Sh := ⟨H.tot, H.first, H.base, H.l.take i, i, true, false⟩
theorem Sh.cut_texts (H : Sh) (i : Nat) : (H.cut i).texts = H.texts.take (i + 1) := by
  show H.first :: (H.l.take i).map txtR = (H.first :: H.l.map txtR).take (i + 1)
  rw [List.take_succ_cons, List.map_take]
theorem Sh.Ok.cut {H : Sh} (h : H.Ok) (i : Nat) (hi : i ≤ H.l.length) : (H.cut i).Ok := by
  refine ⟨h.first, h.can.take i, ?_, h.tot, ?_⟩
  · show i ≤ (H.l.take i).length
    rw [List.length_take]
    omega
  · have := leavesL_take_le H.texts (i + 1)
    have h2 := h.room
    show 0 ≤ H.tot - ((leavesL (H.cut i).texts).length : Int)
    rw [Sh.cut_texts]
    unfold Sh.room Sh.txt at h2
    omega
theorem Sh.tear {H : Sh} (h : H.Ok) (n : Nat) (hn : H.scr.pressed ≤ n) : ∃ i, H.np ≤ i ∧ i ≤ H.l.length ∧ Splits (H.txt.take n) (H.first :: (H.cut i).l.map txtR) (H.cut i).txt.length ∧ (H.cut i).txt = (H.txt.take n).take (H.cut i).txt.length ∧ (H.cut i).txt.length ≤ (H.txt.take n).length := by
  obtain ⟨m, p, h1, h2, h3, h4, h5⟩ := leaves_take H.texts n h.sizes
  have hlen : H.texts.length = H.l.length + 1 := by
    show (H.first :: H.l.map txtR).length = _
    rw [List.length_cons, List.length_map]
  have hnp := h5 (1 + H.np) (by have := h.np; omega) (by
    have hn : ((leavesL (H.texts.take (1 + H.np))).length : Int) ≤ n := hn
    omega)
  obtain ⟨i, rfl⟩ : ∃ i, m = i + 1 := ⟨m - 1, by omega⟩
  have et : (H.cut i).txt = leavesL (H.texts.take (i + 1)) := by
    unfold Sh.txt
    rw [Sh.cut_texts]
  have e2 : H.txt.take n = (H.cut i).txt ++ p := by rw [et]; exact h2
  have ef : H.first :: (H.cut i).l.map txtR = (H.cut i).texts := rfl
  refine ⟨i, by omega, by omega, ?_, ?_, ?_⟩
  · rw [e2, ef]
    have hs := Splits.leaves (H.cut i).texts p (fun x hx => h.sizes x (by rw [Sh.cut_texts] at hx; exact List.mem_of_mem_take hx)) h3
    exact hs
  · rw [e2, List.take_left' rfl]
  · rw [e2, List.length_append]
    omega
end Go.Proofs.YtokglimimnelaaaGreatDoor
section
namespace Go.Vc
open Go Go.RowKit
open Go.Proofs.YtokglimimnelaaaGreatDoor (no)
set_option maxRecDepth 100000
def In (G : Nat → Prop) (R : Kn) : Kn := fun S w => ∃ Sr : Nat → Prop, (∀ x, Sr x → S x ∧ G x) ∧ R Sr w
theorem In.stab {G : Nat → Prop} {R : Kn} (hR : Stab R) : Stab (In G R) := fun S w S' w' h f => by
  obtain ⟨Sr, h1, h2⟩ := h
  exact ⟨Sr, fun x hx => ⟨f.1 x (h1 x hx).1, (h1 x hx).2⟩, hR _ _ _ _ h2 ⟨fun _ h => h, fun x hx => f.2 x (h1 x hx).1⟩⟩
def ownG (S : Nat → Prop) (w : World) : Nat → Prop := fun x => S x ∨ w.heap.size ≤ x
def KL (w : World) (g : Nat) (S : Nat → Prop) (R : Kn) : Kn := fun S' w' => Keep w (fun x => x = g) S' w' ∧ In (ownG S w) R S' w'
theorem KL.stab {w : World} {g : Nat} {S : Nat → Prop} {R : Kn} (hR : Stab R) : Stab (KL w g S R) := (Keep.stab _ _).and (In.stab hR)
section
variable {w w1 w' : World} {S S1 : Nat → Prop} {l : List LB} {os : List OR} {R : Kn} {g T : Nat} {cs cs' : List Value}
theorem CtxF.enterL (hB : Blk w g T cs) (hS : ∀ x, S x → x < w.heap.size ∧ x ≠ g) (hR : R S w) (hs : Stab R) : CtxF no (bare w) (fun x => x < w.heap.size ∧ x ≠ g) w [(g, T, cs)] [] (KL w g S R) :=
  CtxF.enter (fun x hx => hx.1) ⟨Nat.zero_le _, fun h => h.2 rfl, hB, (fun x hx => by cases hx), trivial⟩ trivial ⟨fun x hx hn => ⟨⟨hx, hn⟩, rfl⟩, S, fun x hx => ⟨hS x hx, .inl hx⟩, hR⟩ (KL.stab hs)
theorem CtxF.sizeL (hc : CtxF no (bare w) S1 w1 l os (KL w g S R)) (k : Nat) (hk : l[k]? = some (g, T, cs)) : w.heap.size ≤ w1.heap.size := by
  have hB := (hc.blk k hk).lt
  by_cases e : g = w.heap.size - 1
  · omega
  · rcases Nat.eq_zero_or_pos w.heap.size with h0 | h0
    · omega
    · have := heap_lt (hc.row.1 (w.heap.size - 1) (by omega) (fun h => e h.symm)).2 (by omega)
      omega
theorem CtxF.inL (hc : CtxF no (bare w) S1 w1 l os (KL w g S R)) (hs : Stab R) (k : Nat) (hk : l[k]? = some (g, T, cs)) :
    ∃ Sr : Nat → Prop, R Sr w1 ∧ (∀ x, Sr x → S1 x) ∧ ∀ {w' : World} {l' : List LB} {R' : Kn} {os' : List OR} {E : Nat → Prop}, CtxF no (bare w) E w' l' os' R' ∧ Fut S1 w1 E w' → (∀ x, ext Sr w1 w' x → E x ∨ ∃ o ∈ os', ∃ a, o.A = some a ∧ a.block = x) → ∀ {X : Kn}, Stab X → X (fun x => ext Sr w1 w' x ∧ E x) w' → CtxF no (bare w) E w' l' os' (KL w g S (fun S w => R S w ∧ X S w)) := by
  have hsz := hc.sizeL k hk
  obtain ⟨hk1, Sr, h1, h2⟩ := hc.row
  refine ⟨Sr, h2, fun x hx => (h1 x hx).1, fun {w' l' R' os' E} hh hE {X} hX hx => ?_⟩
  obtain ⟨hc', hf⟩ := hh
  refine hc'.now (fun _ => ⟨Keep.stab _ _ _ _ _ _ hk1 hf, fun x => ext Sr w1 w' x ∧ E x, fun x hx => ⟨hx.2, ?_⟩, hs _ _ _ _ h2 ⟨fun x hx => ⟨.inl hx, hf.1 x (h1 x hx).1⟩, fun x hx => hf.2 x (h1 x hx).1⟩, hx⟩) (KL.stab (hs.and hX))
  rcases hx.1 with h | h
  · exact (h1 x h).2
  · exact .inr (Nat.le_trans hsz h.1)
theorem CtxF.nowL {R' : Kn} (hc : CtxF no (bare w) S1 w1 l os (KL w g S R)) (h : ∀ S w, R S w → R' S w) (hs : Stab R') : CtxF no (bare w) S1 w1 l os (KL w g S R') :=
  hc.now (fun ⟨h1, Sr, h2, h3⟩ => ⟨h1, Sr, h2, h _ _ h3⟩) (KL.stab hs)
theorem CtxF.toldL {o : OR} (hc : CtxF no (bare w) S1 w1 l (o :: os) (KL w g S R)) (hs : Stab R) (k : Nat) (hk : l[k]? = some (g, T, cs)) : ∃ S2, CtxF no (bare w) S2 w1 l os (KL w g S (fun S w => R S w ∧ Row S w o.A o.n o.cap o.xs)) := by
  have hnew : ∀ a, o.A = some a → w.heap.size ≤ a.block := fun a ha => by
    rcases Nat.lt_or_ge a.block w.heap.size with h | h
    · have h1 := hc.fst.out a ha
      have h2 := h1.2 _ (List.mem_of_getElem? hk)
      exact absurd (hc.row.1 a.block h (fun e => h2 e.symm)).1 h1.1
    · exact h
  obtain ⟨S2, h2, hc2⟩ := hc.told
  refine ⟨S2, hc2.now (fun hh => ?_) (KL.stab (hs.and fun _ _ _ _ h f => h.fut f))⟩
  obtain ⟨⟨hk1, Sr, j1, j2⟩, hR1, hR2, hR3⟩ := hh
  refine ⟨hk1, fun x => Sr x ∨ (S2 x ∧ ∃ a, o.A = some a ∧ a.block = x), fun x hx => ?_, hs _ _ _ _ j2 ⟨fun x hx => .inl hx, fun _ _ => rfl⟩, hR1, hR2, fun hx => ?_⟩
  · rcases hx with hx | ⟨hx, a, ha, rfl⟩
    · exact j1 x hx
    · exact ⟨hx, .inr (hnew a ha)⟩
  · obtain ⟨ad, e, hsa, hcl⟩ := hR3 hx
    exact ⟨ad, e, .inr ⟨hsa, ad, e, rfl⟩, hcl⟩
theorem CtxF.leaveL (hc : CtxF no (bare w) S1 w' [(g, T, cs')] os (KL w g S R)) (hs : Stab R) : Turn (fun x => x = g) w w' ∧ Blk w' g T cs' ∧ ∃ Sr : Nat → Prop, (∀ x, Sr x → S1 x ∧ ext S w w' x) ∧ R Sr w' := by
  obtain ⟨hk1, Sr, h1, h2⟩ := hc.row
  refine ⟨hc.leave hk1, hc.blk 0 rfl, Sr, fun x hx => ⟨(h1 x hx).1, ?_⟩, h2⟩
  rcases (h1 x hx).2 with h | h
  · exact .inl h
  · exact .inr ⟨h, hc.ctx.lt x (h1 x hx).1⟩
end
end Go.Vc
namespace Go.Proofs.YtokglimimnelaaaGreatDoor
open Go.Vc Go.RowKit Go.Fl Go.ChangeShapes Go.WideShapes Go.ChangeAt
def knC (k : Known) (x : SX) (A : Option Addr) (cap : Nat) : List Value := [.int .i64 k.b.seq, .slice x.A k.b.l.length x.cap, .slice x.B k.b.ms.length x.cap', .int .i64 x.l0, .int .i64 x.l1, .int .i64 x.l2, .int .i64 x.l3, .int .i64 x.l4, .slice A k.pend.length cap, .int .i64 k.ep, .int .i64 k.ln]
def KnR (k : Known) (x : SX) (A : Option Addr) (cap : Nat) : Kn := fun S w => RepS S w k.b (stX k.b x) ∧ Row S w A k.pend.length cap (k.pend.map dC).flatten
theorem KnR.stab (k : Known) (x : SX) (A : Option Addr) (cap : Nat) : Stab (KnR k x A cap) := (stab_S _ _).and fun _ _ _ _ h f => h.fut f
theorem kseq_any (k : Known) (h : k.Ok) (x : SX) (A : Option Addr) (cap : Nat) (w : World) : Calls Tryz.prog 51 #[.agg (knC k x A cap).toArray] w (RetB (.int .i64 k.seq) w) := by
  have hs := h.seq
  have hl := h.len
  have h0 := (mayS_parts.1 h.may).1.1
  have hm : maxN = 1099511627776 := rfl
  refine calls_vc lay_ok Tryz.func51 rfl (by kernel_rfl) (by kernel_rfl) ?_
  have hc := CtxF.start w no (fun _ h => h.elim) (R := fun _ _ => True) trivial Stab.true
  intro g1 wg1 hg1
  have hc := (hc.loc hg1).1
  refine ⟨_, hc.cell 0 rfl _ rfl, ?_⟩
  refine ⟨_, hc.cell 0 rfl _ rfl, ?_⟩
  refine ⟨?_, hc.below⟩
  show Ending.returned (.int .i64 (IntKind.i64.wrap (k.b.seq + (k.pend.length : Int)))) = _
  rw [IntWalk.i64_in _ ⟨by omega, by omega⟩]
  rfl
def RetKn (g T : Nat) (wrap : List Value → List Value) (S : Nat → Prop) (w : World) (v : Value) (k : Known) (en : Ending) (w' : World) : Prop :=
  en = .returned v ∧ Turn (fun x => x = g) w w' ∧ ∃ x A cap, Blk w' g T (wrap (knC k x A cap)) ∧ KnR k x A cap (ext S w w') w'
theorem RetKn.mk {g T : Nat} {wrap : List Value → List Value} {S S1 : Nat → Prop} {w w' : World} {k : Known} {x : SX} {A : Option Addr} {cap : Nat} {cs : List Value} {os : List OR} (hc : CtxF no (bare w) S1 w' [(g, T, cs)] os (KL w g S (KnR k x A cap))) (e : cs = wrap (knC k x A cap)) (v : Value) : RetKn g T wrap S w v k (.returned v) w' := by
  obtain ⟨h1, h2, Sr, h3, h4⟩ := hc.leaveL (KnR.stab _ _ _ _)
  subst e
  exact ⟨rfl, h1, x, A, cap, h2, KnR.stab _ _ _ _ _ _ _ _ h4 ⟨fun x hx => (h3 x hx).2, fun _ _ => rfl⟩⟩
def addKE (k : Known) (d : D) : Int := if mayD d then (if 60 ≤ k.pend.length ∨ maxN ≤ k.seq then 5 else 0) else 1
def addK (k : Known) (d : D) : Known := if addKE k d = 0 then ⟨k.b, k.pend ++ [d], k.ep, k.ln⟩ else k
theorem kadd0_any (k : Known) (h : k.Ok) (d : D) (hd : d.Ok) (x : SX) (A : Option Addr) (cap g : Nat) (S : Nat → Prop) (w : World) (hB : Blk w g 96 (knC k x A cap)) (hS : ∀ x, S x → x < w.heap.size ∧ x ≠ g) (hR : KnR k x A cap S w) :
    Calls Tryz.prog 44 #[.pointer (some ⟨g, 0, none⟩), .agg (dC d).toArray] w (RetKn g 96 id S w (.int .i64 (addKE k d)) (addK k d)) := by
  obtain ⟨e, he⟩ : ∃ e, e = addKE k d := ⟨_, rfl⟩
  obtain ⟨k', hk'⟩ : ∃ k', k' = addK k d := ⟨_, rfl⟩
  unfold addK at hk'
  rw [← he] at hk'
  rw [← he, show addK k d = k' from by rw [hk', he]; rfl]
  unfold addKE at he
  have hc := CtxF.enterL hB hS hR (KnR.stab _ _ _ _)
  refine calls_vc lay_ok Tryz.func44 rfl (by kernel_rfl) (by kernel_rfl) ?_
  intro g3 wg3 hg3
  have hc := (hc.loc hg3).1
  refine ⟨_, ?_, hc.cells 0 rfl, ?_⟩
  · rfl
  refine call_b (may_any d hd _) ?_
  intro wQ hQ
  have hc := (hc.quiet hQ).1
  cases hm : mayD d with
  | false =>
    rw [hm, if_neg (by decide)] at he
    rw [he, if_neg (by decide)] at hk'
    subst he hk'
    exact RetKn.mk hc.drop rfl _
  | true =>
  rw [hm, if_pos rfl] at he
  refine ⟨_, hc.cell 1 rfl _ rfl, ?_⟩
  by_cases h60 : 60 ≤ k.pend.length
  · rw [if_pos (.inl h60)] at he
    rw [he, if_neg (by decide)] at hk'
    subst he hk'
    refine split_t (decide_eq_true (by omega)) ?_
    exact RetKn.mk hc.drop rfl _
  refine split_f (decide_eq_false (by omega)) ?_
  refine ⟨_, ?_, hc.cells 1 rfl, ?_⟩
  · rfl
  refine call_b (kseq_any k h x A cap _) ?_
  intro wQ hQ
  have hc := (hc.quiet hQ).1
  by_cases hsq : maxN ≤ k.seq
  · rw [if_pos (.inr hsq)] at he
    rw [he, if_neg (by decide)] at hk'
    subst he hk'
    refine split_t (decide_eq_true hsq) ?_
    exact RetKn.mk hc.drop rfl _
  refine split_f (decide_eq_false hsq) ?_
  rw [if_neg (fun h => h.elim h60 hsq)] at he
  rw [he, if_pos rfl] at hk'
  subst he hk'
  refine drawn lay_ok (by kernel_rfl) (.q 0 (.q 1 (.q 2 (.q 3 (.n 4 (.n 5 (.n 6 (.n 7 (.n 8 (.q 9 (.q 10 (.n 11 .fin .stop))) .stop) .stop) .stop) (.n 6 (.n 5 (.n 7 (.n 8 (.q 9 (.q 10 (.n 11 .fin .stop))) .stop) .stop) (.n 7 (.n 5 (.n 8 (.q 9 (.q 10 (.n 11 .fin .stop))) .stop) .stop) .stop)) .stop)) (.n 6 (.n 4 (.n 5 (.n 7 (.n 8 (.q 9 (.q 10 (.n 11 .fin .stop))) .stop) .stop) (.n 7 (.n 5 (.n 8 (.q 9 (.q 10 (.n 11 .fin .stop))) .stop) .stop) .stop)) (.n 7 (.n 4 (.n 5 (.n 8 (.q 9 (.q 10 (.n 11 .fin .stop))) .stop) .stop) .stop) .stop)) .stop)))))) (fun _ => True) (by kernel_rfl) trivial ?_
  have hc := hc.drew
  refine ⟨?_, ?_⟩
  · skip
    refine ⟨_, hc.cell 1 rfl _ rfl, trivial, ?_⟩
    refine ⟨?_, ?_⟩
    · skip
      obtain ⟨Sr, hR1, hSr, hin⟩ := hc.inL (KnR.stab _ _ _ _) 1 rfl
      refine ⟨(cloneD_any A k.pend.length cap _ (dC_flat _) (List.length_map _) (by have := h.len; omega) Sr _ hR1.2).mono fun en wq hq => ?_⟩
      obtain ⟨A2, cap2, e1, hb, ho⟩ := hq
      have hc := hc.fresh hb ho
      refine ⟨_, e1, trivial, ?_⟩
      refine ⟨?_, trivial⟩
      refine ⟨_, ?_, hc.cells 0 rfl, trivial, ?_⟩
      · rfl
      refine ⟨?_, trivial⟩
      intro gv wgv hgv
      have hc := (hc.loc hgv).1
      refine ⟨trivial, ?_⟩
      refine ⟨?_, trivial⟩
      refine app_ownF (m := 1) Tryz.underlying22 info_D rfl (by decide) hc (by rfl) (hc.cells 0 rfl) rfl (by have := h.len; show k.pend.length + 1 ≤ _; omega) (by decide) rfl rfl ?_
      intro A3 cap3 w3 hc
      refine ⟨trivial, ?_⟩
      refine ⟨?_, trivial⟩
      refine ⟨hc.may 2 rfl _ _ (nle rfl) rfl, ?_⟩
      intro wS hS
      have hc := (hc.set 2 rfl hS).1
      refine ⟨trivial, ?_⟩
      obtain ⟨S2, hc⟩ := hc.toldL (KnR.stab _ _ _ _) 2 rfl
      have hc := (hc.nowL (R' := KnR ⟨k.b, k.pend ++ [d], k.ep, k.ln⟩ x A3 cap3) (fun S w h => ⟨h.1.1, by
        have e1 : ((k.pend ++ [d]).map dC).flatten = (k.pend.map dC).flatten ++ dC d := by simp
        have e2 : (k.pend ++ [d]).length = k.pend.length + 1 := by simp
        show Row S w A3 (k.pend ++ [d]).length cap3 ((k.pend ++ [d]).map dC).flatten
        rw [e1, e2]
        exact h.2⟩) (KnR.stab _ _ _ _)).drop.drop
      refine RetKn.mk hc ?_ _
      show _ = knC ⟨k.b, k.pend ++ [d], k.ep, k.ln⟩ x A3 cap3
      unfold knC
      rw [show (k.pend ++ [d]).length = k.pend.length + 1 from by simp]
      rfl
    refine ⟨?_, trivial⟩
    refine ⟨_, ?_, hc.cells 0 rfl, trivial, ?_⟩
    · rfl
    refine ⟨?_, ?_⟩
    · skip
      obtain ⟨Sr, hR1, hSr, hin⟩ := hc.inL (KnR.stab _ _ _ _) 1 rfl
      refine ⟨(cloneD_any A k.pend.length cap _ (dC_flat _) (List.length_map _) (by have := h.len; omega) Sr _ hR1.2).mono fun en wq hq => ?_⟩
      obtain ⟨A2, cap2, e1, hb, ho⟩ := hq
      have hc := hc.fresh hb ho
      refine ⟨_, e1, trivial, ?_⟩
      refine ⟨?_, trivial⟩
      intro gv wgv hgv
      have hc := (hc.loc hgv).1
      refine ⟨trivial, ?_⟩
      refine ⟨?_, trivial⟩
      refine app_ownF (m := 1) Tryz.underlying22 info_D rfl (by decide) hc (by rfl) (hc.cells 0 rfl) rfl (by have := h.len; show k.pend.length + 1 ≤ _; omega) (by decide) rfl rfl ?_
      intro A3 cap3 w3 hc
      refine ⟨trivial, ?_⟩
      refine ⟨?_, trivial⟩
      refine ⟨hc.may 2 rfl _ _ (nle rfl) rfl, ?_⟩
      intro wS hS
      have hc := (hc.set 2 rfl hS).1
      refine ⟨trivial, ?_⟩
      obtain ⟨S2, hc⟩ := hc.toldL (KnR.stab _ _ _ _) 2 rfl
      have hc := (hc.nowL (R' := KnR ⟨k.b, k.pend ++ [d], k.ep, k.ln⟩ x A3 cap3) (fun S w h => ⟨h.1.1, by
        have e1 : ((k.pend ++ [d]).map dC).flatten = (k.pend.map dC).flatten ++ dC d := by simp
        have e2 : (k.pend ++ [d]).length = k.pend.length + 1 := by simp
        show Row S w A3 (k.pend ++ [d]).length cap3 ((k.pend ++ [d]).map dC).flatten
        rw [e1, e2]
        exact h.2⟩) (KnR.stab _ _ _ _)).drop.drop
      refine RetKn.mk hc ?_ _
      show _ = knC ⟨k.b, k.pend ++ [d], k.ep, k.ln⟩ x A3 cap3
      unfold knC
      rw [show (k.pend ++ [d]).length = k.pend.length + 1 from by simp]
      rfl
    refine ⟨?_, trivial⟩
    intro gv wgv hgv
    have hc := (hc.loc hgv).1
    refine ⟨trivial, ?_⟩
    refine ⟨?_, trivial⟩
    obtain ⟨Sr, hR1, hSr, hin⟩ := hc.inL (KnR.stab _ _ _ _) 2 rfl
    refine ⟨(cloneD_any A k.pend.length cap _ (dC_flat _) (List.length_map _) (by have := h.len; omega) Sr _ hR1.2).mono fun en wq hq => ?_⟩
    obtain ⟨A2, cap2, e1, hb, ho⟩ := hq
    have hc := hc.fresh hb ho
    refine ⟨_, e1, trivial, ?_⟩
    refine ⟨?_, trivial⟩
    refine app_ownF (m := 1) Tryz.underlying22 info_D rfl (by decide) hc (by rfl) (hc.cells 0 rfl) rfl (by have := h.len; show k.pend.length + 1 ≤ _; omega) (by decide) rfl rfl ?_
    intro A3 cap3 w3 hc
    refine ⟨trivial, ?_⟩
    refine ⟨?_, trivial⟩
    refine ⟨hc.may 2 rfl _ _ (nle rfl) rfl, ?_⟩
    intro wS hS
    have hc := (hc.set 2 rfl hS).1
    refine ⟨trivial, ?_⟩
    obtain ⟨S2, hc⟩ := hc.toldL (KnR.stab _ _ _ _) 2 rfl
    have hc := (hc.nowL (R' := KnR ⟨k.b, k.pend ++ [d], k.ep, k.ln⟩ x A3 cap3) (fun S w h => ⟨h.1.1, by
      have e1 : ((k.pend ++ [d]).map dC).flatten = (k.pend.map dC).flatten ++ dC d := by simp
      have e2 : (k.pend ++ [d]).length = k.pend.length + 1 := by simp
      show Row S w A3 (k.pend ++ [d]).length cap3 ((k.pend ++ [d]).map dC).flatten
      rw [e1, e2]
      exact h.2⟩) (KnR.stab _ _ _ _)).drop.drop
    refine RetKn.mk hc ?_ _
    show _ = knC ⟨k.b, k.pend ++ [d], k.ep, k.ln⟩ x A3 cap3
    unfold knC
    rw [show (k.pend ++ [d]).length = k.pend.length + 1 from by simp]
    rfl
  refine ⟨?_, trivial⟩
  refine ⟨_, ?_, hc.cells 0 rfl, trivial, ?_⟩
  · rfl
  refine ⟨?_, ?_⟩
  · skip
    refine ⟨_, hc.cell 1 rfl _ rfl, trivial, ?_⟩
    refine ⟨?_, ?_⟩
    · skip
      obtain ⟨Sr, hR1, hSr, hin⟩ := hc.inL (KnR.stab _ _ _ _) 1 rfl
      refine ⟨(cloneD_any A k.pend.length cap _ (dC_flat _) (List.length_map _) (by have := h.len; omega) Sr _ hR1.2).mono fun en wq hq => ?_⟩
      obtain ⟨A2, cap2, e1, hb, ho⟩ := hq
      have hc := hc.fresh hb ho
      refine ⟨_, e1, trivial, ?_⟩
      refine ⟨?_, trivial⟩
      intro gv wgv hgv
      have hc := (hc.loc hgv).1
      refine ⟨trivial, ?_⟩
      refine ⟨?_, trivial⟩
      refine app_ownF (m := 1) Tryz.underlying22 info_D rfl (by decide) hc (by rfl) (hc.cells 0 rfl) rfl (by have := h.len; show k.pend.length + 1 ≤ _; omega) (by decide) rfl rfl ?_
      intro A3 cap3 w3 hc
      refine ⟨trivial, ?_⟩
      refine ⟨?_, trivial⟩
      refine ⟨hc.may 2 rfl _ _ (nle rfl) rfl, ?_⟩
      intro wS hS
      have hc := (hc.set 2 rfl hS).1
      refine ⟨trivial, ?_⟩
      obtain ⟨S2, hc⟩ := hc.toldL (KnR.stab _ _ _ _) 2 rfl
      have hc := (hc.nowL (R' := KnR ⟨k.b, k.pend ++ [d], k.ep, k.ln⟩ x A3 cap3) (fun S w h => ⟨h.1.1, by
        have e1 : ((k.pend ++ [d]).map dC).flatten = (k.pend.map dC).flatten ++ dC d := by simp
        have e2 : (k.pend ++ [d]).length = k.pend.length + 1 := by simp
        show Row S w A3 (k.pend ++ [d]).length cap3 ((k.pend ++ [d]).map dC).flatten
        rw [e1, e2]
        exact h.2⟩) (KnR.stab _ _ _ _)).drop.drop
      refine RetKn.mk hc ?_ _
      show _ = knC ⟨k.b, k.pend ++ [d], k.ep, k.ln⟩ x A3 cap3
      unfold knC
      rw [show (k.pend ++ [d]).length = k.pend.length + 1 from by simp]
      rfl
    refine ⟨?_, trivial⟩
    intro gv wgv hgv
    have hc := (hc.loc hgv).1
    refine ⟨trivial, ?_⟩
    refine ⟨?_, trivial⟩
    obtain ⟨Sr, hR1, hSr, hin⟩ := hc.inL (KnR.stab _ _ _ _) 2 rfl
    refine ⟨(cloneD_any A k.pend.length cap _ (dC_flat _) (List.length_map _) (by have := h.len; omega) Sr _ hR1.2).mono fun en wq hq => ?_⟩
    obtain ⟨A2, cap2, e1, hb, ho⟩ := hq
    have hc := hc.fresh hb ho
    refine ⟨_, e1, trivial, ?_⟩
    refine ⟨?_, trivial⟩
    refine app_ownF (m := 1) Tryz.underlying22 info_D rfl (by decide) hc (by rfl) (hc.cells 0 rfl) rfl (by have := h.len; show k.pend.length + 1 ≤ _; omega) (by decide) rfl rfl ?_
    intro A3 cap3 w3 hc
    refine ⟨trivial, ?_⟩
    refine ⟨?_, trivial⟩
    refine ⟨hc.may 2 rfl _ _ (nle rfl) rfl, ?_⟩
    intro wS hS
    have hc := (hc.set 2 rfl hS).1
    refine ⟨trivial, ?_⟩
    obtain ⟨S2, hc⟩ := hc.toldL (KnR.stab _ _ _ _) 2 rfl
    have hc := (hc.nowL (R' := KnR ⟨k.b, k.pend ++ [d], k.ep, k.ln⟩ x A3 cap3) (fun S w h => ⟨h.1.1, by
      have e1 : ((k.pend ++ [d]).map dC).flatten = (k.pend.map dC).flatten ++ dC d := by simp
      have e2 : (k.pend ++ [d]).length = k.pend.length + 1 := by simp
      show Row S w A3 (k.pend ++ [d]).length cap3 ((k.pend ++ [d]).map dC).flatten
      rw [e1, e2]
      exact h.2⟩) (KnR.stab _ _ _ _)).drop.drop
    refine RetKn.mk hc ?_ _
    show _ = knC ⟨k.b, k.pend ++ [d], k.ep, k.ln⟩ x A3 cap3
    unfold knC
    rw [show (k.pend ++ [d]).length = k.pend.length + 1 from by simp]
    rfl
  refine ⟨?_, trivial⟩
  intro gv wgv hgv
  have hc := (hc.loc hgv).1
  refine ⟨trivial, ?_⟩
  refine ⟨?_, trivial⟩
  refine ⟨_, hc.cell 2 rfl _ rfl, trivial, ?_⟩
  refine ⟨?_, trivial⟩
  obtain ⟨Sr, hR1, hSr, hin⟩ := hc.inL (KnR.stab _ _ _ _) 2 rfl
  refine ⟨(cloneD_any A k.pend.length cap _ (dC_flat _) (List.length_map _) (by have := h.len; omega) Sr _ hR1.2).mono fun en wq hq => ?_⟩
  obtain ⟨A2, cap2, e1, hb, ho⟩ := hq
  have hc := hc.fresh hb ho
  refine ⟨_, e1, trivial, ?_⟩
  refine ⟨?_, trivial⟩
  refine app_ownF (m := 1) Tryz.underlying22 info_D rfl (by decide) hc (by rfl) (hc.cells 0 rfl) rfl (by have := h.len; show k.pend.length + 1 ≤ _; omega) (by decide) rfl rfl ?_
  intro A3 cap3 w3 hc
  refine ⟨trivial, ?_⟩
  refine ⟨?_, trivial⟩
  refine ⟨hc.may 2 rfl _ _ (nle rfl) rfl, ?_⟩
  intro wS hS
  have hc := (hc.set 2 rfl hS).1
  refine ⟨trivial, ?_⟩
  obtain ⟨S2, hc⟩ := hc.toldL (KnR.stab _ _ _ _) 2 rfl
  have hc := (hc.nowL (R' := KnR ⟨k.b, k.pend ++ [d], k.ep, k.ln⟩ x A3 cap3) (fun S w h => ⟨h.1.1, by
    have e1 : ((k.pend ++ [d]).map dC).flatten = (k.pend.map dC).flatten ++ dC d := by simp
    have e2 : (k.pend ++ [d]).length = k.pend.length + 1 := by simp
    show Row S w A3 (k.pend ++ [d]).length cap3 ((k.pend ++ [d]).map dC).flatten
    rw [e1, e2]
    exact h.2⟩) (KnR.stab _ _ _ _)).drop.drop
  refine RetKn.mk hc ?_ _
  show _ = knC ⟨k.b, k.pend ++ [d], k.ep, k.ln⟩ x A3 cap3
  unfold knC
  rw [show (k.pend ++ [d]).length = k.pend.length + 1 from by simp]
  rfl
end Go.Proofs.YtokglimimnelaaaGreatDoor
end
namespace Go.Proofs.YtokglimimnelaaaGreatDoor
open Go.Vc Go.RowKit Go.Fl Go.ChangeShapes Go.WideShapes Go.ChangeAt
set_option maxRecDepth 100000
theorem snum_any (n : Int) (w : World) : Calls Tryz.prog 50 #[.int .i64 n] w (RetB (.agg #[.int .i64 1, .int .i64 n, .string ⟨#[]⟩, .slice none 0 0]) w) := by
  refine calls_vc lay_ok Tryz.func50 rfl (by kernel_rfl) (by kernel_rfl) ?_
  have hc := Ctx.start w no (fun _ h => h.elim)
  repeat (first | (intro gA wA hA; have hc := (hc.loc hA).1) | refine ⟨_, hc.cell 0 rfl _ rfl, ?_⟩ | (refine ⟨_, ?_, hc.cells 0 rfl, ?_⟩; (· rfl)) | (refine ⟨hc.may 0 rfl _ _ (nle rfl) rfl, ?_⟩; intro wA hA; have hc := (hc.set 0 rfl hA).1) | refine ⟨_, hc.cell 1 rfl _ rfl, ?_⟩ | (refine ⟨_, ?_, hc.cells 1 rfl, ?_⟩; (· rfl)) | (refine ⟨hc.may 1 rfl _ _ (nle rfl) rfl, ?_⟩; intro wA hA; have hc := (hc.set 1 rfl hA).1) | refine ⟨_, hc.cell 2 rfl _ rfl, ?_⟩ | (refine ⟨_, ?_, hc.cells 2 rfl, ?_⟩; (· rfl)) | (refine ⟨hc.may 2 rfl _ _ (nle rfl) rfl, ?_⟩; intro wA hA; have hc := (hc.set 2 rfl hA).1) | refine ⟨_, hc.cell 3 rfl _ rfl, ?_⟩ | (refine ⟨_, ?_, hc.cells 3 rfl, ?_⟩; (· rfl)) | (refine ⟨hc.may 3 rfl _ _ (nle rfl) rfl, ?_⟩; intro wA hA; have hc := (hc.set 3 rfl hA).1) | refine ⟨_, hc.cell 4 rfl _ rfl, ?_⟩ | (refine ⟨_, ?_, hc.cells 4 rfl, ?_⟩; (· rfl)) | (refine ⟨hc.may 4 rfl _ _ (nle rfl) rfl, ?_⟩; intro wA hA; have hc := (hc.set 4 rfl hA).1))
  exact ⟨rfl, hc.below⟩
theorem srow_any (A : Option Addr) (n cap : Nat) (w : World) : Calls Tryz.prog 83 #[.slice A n cap] w (RetB (.agg #[.int .i64 3, .int .i64 0, .string ⟨#[]⟩, .slice A n cap]) w) := by
  refine calls_vc lay_ok Tryz.func83 rfl (by kernel_rfl) (by kernel_rfl) ?_
  have hc := Ctx.start w no (fun _ h => h.elim)
  repeat (first | (intro gA wA hA; have hc := (hc.loc hA).1) | refine ⟨_, hc.cell 0 rfl _ rfl, ?_⟩ | (refine ⟨_, ?_, hc.cells 0 rfl, ?_⟩; (· rfl)) | (refine ⟨hc.may 0 rfl _ _ (nle rfl) rfl, ?_⟩; intro wA hA; have hc := (hc.set 0 rfl hA).1) | refine ⟨_, hc.cell 1 rfl _ rfl, ?_⟩ | (refine ⟨_, ?_, hc.cells 1 rfl, ?_⟩; (· rfl)) | (refine ⟨hc.may 1 rfl _ _ (nle rfl) rfl, ?_⟩; intro wA hA; have hc := (hc.set 1 rfl hA).1) | refine ⟨_, hc.cell 2 rfl _ rfl, ?_⟩ | (refine ⟨_, ?_, hc.cells 2 rfl, ?_⟩; (· rfl)) | (refine ⟨hc.may 2 rfl _ _ (nle rfl) rfl, ?_⟩; intro wA hA; have hc := (hc.set 2 rfl hA).1) | refine ⟨_, hc.cell 3 rfl _ rfl, ?_⟩ | (refine ⟨_, ?_, hc.cells 3 rfl, ?_⟩; (· rfl)) | (refine ⟨hc.may 3 rfl _ _ (nle rfl) rfl, ?_⟩; intro wA hA; have hc := (hc.set 3 rfl hA).1) | refine ⟨_, hc.cell 4 rfl _ rfl, ?_⟩ | (refine ⟨_, ?_, hc.cells 4 rfl, ?_⟩; (· rfl)) | (refine ⟨hc.may 4 rfl _ _ (nle rfl) rfl, ?_⟩; intro wA hA; have hc := (hc.set 4 rfl hA).1))
  exact ⟨rfl, hc.below⟩
set_option maxHeartbeats 4000000 in
theorem text_any (k : Known) (h : k.Ok) (x : SX) (A : Option Addr) (cap : Nat) (S0 : Nat → Prop) (w : World) (hR : KnR k x A cap S0 w) (ht : Tab w) : Calls Tryz.prog 78 #[.agg (knC k x A cap).toArray] w (RetB (.string ⟨(textK k).toArray⟩) w) := by
  have hl := h.len
  refine calls_vc lay_ok Tryz.func78 rfl (by kernel_rfl) (by kernel_rfl) ?_
  have hc := CtxF.start w no (fun _ h => h.elim) (R := fun S w => RepL S w [] []) (.nil _ _) (stab_L _ _)
  intro g1 wg1 hg1
  have hc := (hc.loc hg1).1
  refine call_b (srow_any none 0 0 _) ?_
  intro wQ hQ
  have hc := (hc.quiet hQ).1
  intro g3 wg3 hg3
  have hc := (hc.loc hg3).1
  refine ⟨hc.may 0 rfl _ _ (nle rfl) rfl, ?_⟩
  intro wS hS
  have hc := (hc.set 0 rfl hS).1
  refine ⟨_, hc.cell 1 rfl _ rfl, ?_⟩
  have hc := hc.nil 108 4
  refine ⟨Nat, fun i => [(1, .pointer (some ⟨g1, 0, none⟩)), (3, .pointer (some ⟨g3, 0, none⟩)), (8, .slice A k.pend.length cap), (9, .int .i64 k.pend.length), (10, .int .i64 i)],
    fun i w' => i ≤ k.pend.length ∧ ∃ S A' cap' xs, CtxF no w S w' [(g3, 108, [.int .i64 3, .int .i64 0, .string ⟨#[]⟩, .slice A' i cap']), (g1, 96, knC k x A cap)] [⟨108, 4, A', i, cap', xs⟩] (fun S w => RepL S w ((k.pend.take i).map valD') xs),
    fun i _ => k.pend.length - i, 0, ⟨rfl, rfl, rfl, rfl, rfl, trivial⟩, ⟨Nat.zero_le _, no, none, 0, [], hc⟩, ?_⟩
  clear hc
  rintro i w4 u ⟨hi, S, A', cap', xs, hc⟩
  by_cases hlt : i < k.pend.length
  · refine split_t (decide_eq_true (by omega)) ?_
    obtain ⟨ad, rfl, hcell⟩ := Row.elemF (hR.2.below hc.below) (by decide) (dC_flat _) i (by rw [List.length_map]; exact hlt)
    rw [List.getElem_map] at hcell
    refine ⟨⟨by omega, by omega⟩, ?_⟩
    refine ⟨dC k.pend[i], rfl, hcell, ?_⟩
    have hd := (h.pend k.pend[i] (List.getElem_mem hlt)).2
    generalize hx : k.pend[i] = d at *
    intro g5 wg5 hg5
    have hc := (hc.loc hg5).1
    refine ⟨hc.may 0 rfl _ _ (nle rfl) rfl, ?_⟩
    intro wS hS
    have hc := (hc.set 0 rfl hS).1
    refine drawn lay_ok (by kernel_rfl) (.q 0 (.q 1 (.q 2 (.n 3 (.n 4 (.n 5 (.q 6 (.z 7)) .stop) .stop) .stop)))) (fun z => Blk z g3 108 [.int .i64 3, .int .i64 0, .string ⟨#[]⟩, .slice A' i cap'] ∧ Blk z g5 32 (dC d)) (by kernel_rfl) ⟨hc.blk 1 rfl, hc.blk 0 rfl⟩ ?_
    have hc := hc.drew
    refine ⟨_, fun x hx => hx.1.cell 3, ?_⟩
    refine ⟨(dC d), rfl, fun x hx => drop_cells hx.2 0 _ 0 (fun j v hj => by simpa using hj), ?_⟩
    refine ⟨?_, trivial⟩
    refine ⟨(value_any d hd _).mono fun en w9 hq => ?_⟩
    obtain ⟨kk, n, s, A1, ln, c1, e1, h9, hrep⟩ := hq
    have hc := (hc.call h9).1.know (hrep.sub fun b h => h.elim (fun h => h.elim) .inr) (stab_C _ _)
    refine ⟨_, e1, ⟨hc.blk 1 rfl, hc.blk 0 rfl⟩, ?_⟩
    refine ⟨?_, trivial⟩
    intro g20 w10 h10
    have hc := (hc.loc h10).1
    refine ⟨⟨hc.blk 2 rfl, hc.blk 1 rfl⟩, ?_⟩
    refine ⟨?_, trivial⟩
    refine app_ownF Tryz.underlying106 info_val rfl (by decide) hc (ys := [.int .i64 kk, .int .i64 n, .string s, .slice A1 ln c1]) (m := 1) rfl (hc.cells 0 rfl) rfl (by omega) (by decide) rfl rfl ?_
    intro A2 cap2 w11 hc
    refine ⟨⟨hc.blk 2 rfl, hc.blk 1 rfl⟩, ?_⟩
    refine ⟨hc.may 2 rfl 3 _ (Nat.le_refl 4) rfl, ?_⟩
    intro w12 h12
    have hc := (hc.set 2 rfl h12).1
    have et : (k.pend.take (i + 1)).map valD' = (k.pend.take i).map valD' ++ [valD' d] := by rw [List.take_add_one, List.getElem?_eq_getElem hlt, hx]; simp
    have hf := hc.drop.drop.now (X := fun S w => RepL S w ((k.pend.take i).map valD' ++ [valD' d]) (xs ++ [.int .i64 kk, .int .i64 n, .string s, .slice A1 ln c1])) (fun h => RepL.snoc h.2 h.1) (stab_L _ _)
    rw [← et] at hf
    exact ⟨i + 1, ⟨rfl, rfl, rfl, rfl, congrArg _ (i_down (by omega)), trivial⟩, ⟨hlt, _, A2, cap2, _, hf⟩, by show k.pend.length - (i + 1) < k.pend.length - i; omega⟩
  · refine split_f (decide_eq_false (by omega)) ?_
    have hi : i = k.pend.length := by omega
    subst hi
    rw [List.take_length] at hc
    obtain ⟨S2, _, hc⟩ := hc.told
    have hc := hc.now (X := fun S w => RepC S w (vRow (k.pend.map valD')) [.int .i64 3, .int .i64 0, .string ⟨#[]⟩, .slice A' k.pend.length cap']) (fun ho => by
      rw [vRow, RepC]
      exact ⟨A', cap', xs, by rw [List.length_map], ho.1, by rw [List.length_map]; exact ho.2⟩) (stab_C _ _)
    have hr := hc
    refine drawn lay_ok (by kernel_rfl) (.q 0 (.q 1 (.q 4 (.q 5 (.q 6 (.q 8 (.q 9 (.n 2 (.q 3 (.n 7 (.n 10 (.n 11 (.n 12 (.n 13 (.q 14 .fin) .stop) .stop) .stop) .stop) .stop)) .stop)))))))) (Old _) (by kernel_rfl) (Old.start _) ?_
    have hk := hc.old0
    have hc := hc.drew
    refine ⟨stX k.b x, rfl, fun z hz => Old.looks hz (hr.cellsAt 1 rfl 0 (stX k.b x) rfl), ?_⟩
    refine ⟨_, ?_, fun x hx => Keeps.cells hx (hr.blk 0 rfl) (hr.blk 0 rfl).lt, ?_⟩
    · rfl
    refine ⟨_, fun x hx => Keeps.cell hx (hr.blk 1 rfl) (hr.blk 1 rfl).lt rfl, ?_⟩
    refine ⟨_, fun x hx => Keeps.cell hx (hr.blk 1 rfl) (hr.blk 1 rfl).lt rfl, ?_⟩
    refine ⟨?_, trivial⟩
    refine call_b (bput_any k.b (foldS_keys h.may h.lows) (stX k.b x) S0 _ (hR.1.below hc.below) (ht.below hc.below)) ?_
    intro wA hA
    have hc := (hc.quiet hA).1
    have hk := Keeps.below hk (fun _ h => h) hA
    refine ⟨hk, ?_⟩
    refine ⟨?_, trivial⟩
    refine call_b (snum_any k.ep _) ?_
    intro wA hA
    have hc := (hc.quiet hA).1
    have hk := Keeps.below hk (fun _ h => h) hA
    refine ⟨hk, ?_⟩
    refine ⟨?_, trivial⟩
    refine call_b (snum_any k.ln _) ?_
    intro wA hA
    have hc := (hc.quiet hA).1
    have hk := Keeps.below hk (fun _ h => h) hA
    refine ⟨hk, ?_⟩
    refine ⟨?_, trivial⟩
    intro g6 w6 h6
    have hc := hc.made h6 4 4 rfl (by decide)
    have hk := Keeps.below hk (fun _ h => h) h6.below
    refine ⟨hk, ?_⟩
    refine ⟨?_, trivial⟩
    refine call_b (srow_any (some ⟨g6, 0, none⟩) 4 4 _) ?_
    intro wA hA
    have hc := (hc.quiet hA).1
    have hk := Keeps.below hk (fun _ h => h) hA
    refine ⟨hk, ?_⟩
    obtain ⟨S3, _, hc⟩ := hc.told
    have hc := hc.now (X := fun S w => RepC S w (vKnown k) [.int .i64 3, .int .i64 0, .string ⟨#[]⟩, .slice (some ⟨g6, 0, none⟩) 4 4]) (fun ho => by
      rw [vKnown, vRow, RepC]
      exact ⟨some ⟨g6, 0, none⟩, 4, _, rfl, .cons (.leaf _ _ 2 0 ⟨(putStt k.b).toArray⟩) (.cons ho.1 (.cons (.leaf _ _ 1 k.ep ⟨#[]⟩) (.cons (.leaf _ _ 1 k.ln ⟨#[]⟩) (.nil _ _)))), ho.2⟩) (stab_C _ _)
    have htl := textK_len h
    rw [textK_eq h] at htl
    refine ⟨?_, trivial⟩
    refine call_b (vput_any (vKnown k) (okV_known h) (by omega) 3 0 ⟨#[]⟩ (some ⟨g6, 0, none⟩) 4 4 _ _ hc.row (ht.below hc.below)) ?_
    intro wA hA
    have hc := (hc.quiet hA).1
    have hk := Keeps.below hk (fun _ h => h) hA
    refine ⟨hk, ?_⟩
    exact ⟨rfl, hc.below⟩
set_option maxRecDepth 100000
def RetRdK (k : Known) (w : World) (en : Ending) (w' : World) : Prop := ∃ x A cap, en = .returned (.tuple #[.agg (knC k x A cap).toArray, .bool true]) ∧ Below w.heap.size w w' ∧ KnR k x A cap (ext no w w') w'
theorem strEq_self (s : ByteArray) : strEq s s = true := strEq_iff.2 rfl
set_option maxHeartbeats 4000000 in
theorem kread_any (s : ByteArray) (k : Known) (hf : FirstOk s k) (w : World) (hw : Env w) : Calls Tryz.prog 40 #[.string s] w (RetRdK k w) := by
  have h := hf.ok
  have hl := h.len
  refine calls_vc lay_ok Tryz.func40 rfl (by kernel_rfl) (by kernel_rfl) ?_
  have hc := CtxF.start w no (fun _ h => h.elim) (R := fun _ _ => True) trivial Stab.true
  intro g2 wg2 hg2
  have hc := (hc.loc hg2).1
  rcases hf with ⟨rfl, rfl⟩ | ⟨rfl, _⟩
  · refine ⟨hc.may 0 rfl _ _ (nle rfl) rfl, ?_⟩
    intro wS hS
    have hc := (hc.set 0 rfl hS).1
    refine ⟨_, ?_, hc.cells 0 rfl, ?_⟩
    · rfl
    exact ⟨SX0, none, 0, rfl, hc.below, rep0X _ _, row0 _ _⟩
  have hne : strEq (⟨(textK k).toArray⟩ : ByteArray) ⟨#[]⟩ = false := by
    rw [← Bool.not_eq_true, strEq_iff]
    intro e
    apply textK_ne h
    injection e with e
    exact List.toArray_inj e
  refine split_f hne ?_
  have hal := All_V (textK k) _ (by have := textK_len h; omega) (hw.below hc.below)
  rw [allV_textK h] at hal
  refine ⟨hal.mono fun en wq hq => ?_⟩
  obtain ⟨A1, c1, e1, hb, hr1⟩ := hq
  obtain ⟨xs, hL, hRw⟩ := hr1.rows
  have hRw : Row (ext no wg2 wq) wq A1 4 c1 xs := hRw
  have hL : RepL (ext no wg2 wq) wq [vStr ⟨(putStt k.b).toArray⟩, vRow (k.pend.map valD'), vNum k.ep, vNum k.ln] xs := hL
  simp only [vStr, vRow, vNum, RepL, RepC] at hL
  obtain ⟨d0, y0, ⟨B0, e0, z0, rfl, _⟩, ⟨d1, y1, ⟨B1, e1', z1, rfl, hPL, hPR⟩, ⟨d2, y2, ⟨B2, e2, z2, rfl, _⟩, ⟨d3, y3, ⟨B3, e3, z3, rfl, _⟩, rfl, rfl⟩, rfl⟩, rfl⟩, rfl⟩ := hL
  have hc := (hc.call hb).1.know (X := fun S w => Row S w A1 4 c1 ([.int .i64 2, .int .i64 0, .string ⟨(putStt k.b).toArray⟩, .slice B0 0 e0] ++ ([.int .i64 3, .int .i64 0, .string ⟨#[]⟩, .slice B1 (k.pend.map valD').length e1'] ++ ([.int .i64 1, .int .i64 k.ep, .string ⟨#[]⟩, .slice B2 0 e2] ++ ([.int .i64 1, .int .i64 k.ln, .string ⟨#[]⟩, .slice B3 0 e3] ++ [])))) ∧ RepL S w (k.pend.map valD') z1 ∧ Row S w B1 (k.pend.map valD').length e1' z1)
    ⟨hRw.sub (fun b h => h.elim (fun h => h.elim) .inr), hPL.sub (fun b h => h.elim (fun h => h.elim) .inr), hPR.sub (fun b h => h.elim (fun h => h.elim) .inr)⟩ (Stab.and (fun _ _ _ _ h f => h.fut f) (Stab.and (stab_L _ _) (fun _ _ _ _ h f => h.fut f)))
  refine ⟨_, e1, ?_⟩
  intro g4 wg4 hg4
  have hc := (hc.loc hg4).1
  refine ⟨hc.may 0 rfl _ _ (nle rfl) rfl, ?_⟩
  intro wS hS
  have hc := (hc.set 0 rfl hS).1
  refine ⟨_, hc.cell 0 rfl _ rfl, ?_⟩
  obtain ⟨ad, rfl, hSa, hcell⟩ := hc.row.2.1.2.2 (by simp)
  have hr := hc
  refine drawn lay_ok (by kernel_rfl) (.q 0 (.q 1 (.q 2 (.q 3 (.q 4 (.q 5 (.q 6 (.q 7 (.q 8 (.q 9 (.q 10 (.n 11 (.z 12) .stop)))))))))))) (Old _) (by kernel_rfl) (Old.start _) ?_
  have hk := hc.old0
  have hc := hc.drew
  refine ⟨_, fun x hx => Keeps.cell hx (hr.blk 0 rfl) (hr.blk 0 rfl).lt rfl, ?_⟩
  refine ⟨⟨by decide, (show (2 : Int) < 4 by decide)⟩, ?_⟩
  refine ⟨_, fun x hx => Keeps.look hx (hcell 9 _ rfl), ?_⟩
  refine ⟨_, fun x hx => Keeps.cell hx (hr.blk 0 rfl) (hr.blk 0 rfl).lt rfl, ?_⟩
  refine ⟨⟨by decide, (show (3 : Int) < 4 by decide)⟩, ?_⟩
  refine ⟨_, fun x hx => Keeps.look hx (hcell 13 _ rfl), ?_⟩
  refine ⟨?_, trivial⟩
  intro g6 wg6 hg6
  have hc := (hc.loc hg6).1
  have ng6 := Old.new hk hg6
  have hk := Keeps.below hk (fun _ h => h) hg6.below
  refine ⟨hk, ?_⟩
  refine ⟨hc.may 0 rfl _ _ (nle rfl) rfl, ?_⟩
  intro wS hS
  have hc := (hc.set 0 rfl hS).1
  refine ⟨_, hc.cell 1 rfl _ rfl, ?_⟩
  obtain ⟨ad', e', hSa', hcell⟩ := hc.row.2.1.2.2 (by simp)
  cases e'
  refine ⟨⟨by decide, (show (1 : Int) < 4 by decide)⟩, ?_⟩
  refine ⟨_, hcell 7 _ rfl, ?_⟩
  have hc := hc.nil 32 8
  have hn : (k.pend.map valD').length = k.pend.length := List.length_map _
  rw [hn] at *
  refine ⟨Nat, fun i => [(0, .string ⟨(textK k).toArray⟩), (2, .pointer (some ⟨g2, 0, none⟩)), (3, .bool false), (4, .pointer (some ⟨g4, 0, none⟩)), (5, .int .i64 0), (6, .pointer (some ⟨g6, 0, none⟩)), (43, .slice B1 k.pend.length e1'), (44, .int .i64 k.pend.length), (45, .int .i64 i)],
    fun i w' => i ≤ k.pend.length ∧ ∃ A2 c2, CtxF no w _ w' [(g6, 96, knC ⟨Stt0, k.pend.take i, k.ep, k.ln⟩ SX0 A2 c2), (g4, 108, cellsV (vKnown k) (some ad) c1), (g2, 96, (lay.ty 96).zero)] [⟨32, 8, A2, i, c2, ((k.pend.take i).map dC).flatten⟩] _, fun i _ => k.pend.length - i, 0, ⟨rfl, rfl, rfl, rfl, rfl, rfl, rfl, rfl, rfl, trivial⟩, ⟨Nat.zero_le _, none, 0, hc⟩, ?_⟩
  clear hc
  rintro i w4 u ⟨hi, A2, c2, hc⟩
  by_cases hlt : i < k.pend.length
  · refine split_t (decide_eq_true (by omega)) ?_
    obtain ⟨ad2, cs, rfl, hrep, hlen, hcells⟩ := Rep.elem hc.row.2.2.1 hc.row.2.2.2 i (by rw [List.length_map]; exact hlt)
    rw [List.getElem_map] at hrep
    have hd := h.pend k.pend[i] (List.getElem_mem hlt)
    generalize hx : k.pend[i] = d at *
    obtain ⟨hd1, hd2⟩ := hd
    rw [valD_may hd1] at hrep
    obtain ⟨A5, c5, rfl⟩ := hrep.cells
    refine ⟨⟨by omega, by omega⟩, ?_⟩
    refine ⟨_, hlen, hcells, ?_⟩
    have hof := fun S w hr => of_any (vDeed d) (vK (vDeed d)) (vN (vDeed d)) (vS (vDeed d)) A5 (vL (vDeed d)).length c5 S w hr (show (deedV (vDeed d)).Ok from hd2)
    rw [ofD_vDeed d hd1] at hof
    have hst := hc.stab
    have hc := hc.know hrep (stab_C _ _)
    intro g8 wg8 hg8
    have hc := (hc.loc hg8).1
    refine ⟨hc.may 0 rfl _ _ (nle rfl) rfl, ?_⟩
    intro wS hS
    have hc := (hc.set 0 rfl hS).1
    refine ⟨_, ?_, hc.cells 0 rfl, ?_⟩
    · rfl
    refine call_b (hof _ _ hc.row.2) ?_
    intro wQ hQ
    have hc := (hc.quiet hQ).1
    intro g9 wg9 hg9
    have hc := (hc.loc hg9).1
    refine ⟨hc.may 0 rfl _ _ (nle rfl) rfl, ?_⟩
    intro wS hS
    have hc := (hc.set 0 rfl hS).1
    refine ⟨_, hc.cell 2 rfl _ rfl, ?_⟩
    refine ⟨_, ?_, hc.cells 0 rfl, ?_⟩
    · rfl
    intro gv wgv hgv
    have hc := (hc.loc hgv).1
    refine app_ownF (m := 1) Tryz.underlying22 info_D rfl (by decide) hc (by rfl) (hc.cells 0 rfl) rfl (by omega) (by decide) (by show Value.slice A2 (k.pend.take i).length c2 = Value.slice A2 i c2; rw [List.length_take, Nat.min_eq_left (Nat.le_of_lt hlt)]) rfl ?_
    intro A3 c3 w5 hc
    refine ⟨hc.may 3 rfl _ _ (nle rfl) rfl, ?_⟩
    intro wS hS
    have hc := (hc.set 3 rfl hS).1
    have et : k.pend.take (i + 1) = k.pend.take i ++ [d] := by rw [List.take_add_one, List.getElem?_eq_getElem hlt, hx]; rfl
    have el : (k.pend.take i ++ [d]).length = i + 1 := by rw [List.length_append, List.length_take]; simp only [List.length_cons, List.length_nil]; omega
    have hl1 : (k.pend.take (i + 1)).length = i + 1 := by rw [et, el]
    refine ⟨i + 1, ⟨rfl, rfl, rfl, rfl, rfl, rfl, rfl, rfl, congrArg _ (i_down (by omega)), trivial⟩, ⟨hlt, A3, c3, ?_⟩, by show k.pend.length - (i + 1) < k.pend.length - i; omega⟩
    have hf := hc.drop.drop.drop.now (fun h => h.1) hst
    have e1 : ((k.pend.take (i + 1)).map dC).flatten = ((k.pend.take i).map dC).flatten ++ dC d := by rw [et]; simp
    have e2 : knC ⟨Stt0, k.pend.take (i + 1), k.ep, k.ln⟩ SX0 A3 c3 = [.int .i64 Stt0.seq, .slice none 0 0, .slice none 0 0, .int .i64 0, .int .i64 0, .int .i64 0, .int .i64 0, .int .i64 0, .slice A3 (i + 1) c3, .int .i64 k.ep, .int .i64 k.ln] := by
      unfold knC
      rw [hl1]
      rfl
    rw [e1, e2]
    exact hf
  · refine split_f (decide_eq_false (by omega)) ?_
    have hi : i = k.pend.length := by omega
    subst hi
    rw [List.take_length] at hc
    refine ⟨_, hc.cell 1 rfl _ rfl, ?_⟩
    obtain ⟨ad', e', hSa', hcell⟩ := hc.row.2.1.2.2 (by simp)
    cases e'
    refine ⟨⟨by decide, (show (0 : Int) < 4 by decide)⟩, ?_⟩
    refine ⟨_, hcell 2 _ rfl, ?_⟩
    have hbr := bread_any (putStt k.b) (putStt_len h.lows h.may) _ (hw.below hc.below)
    rw [readStt_put k.b h.lows h.may] at hbr
    refine ⟨hbr.mono fun en wq hq => ?_⟩
    obtain ⟨cS, e1, hq, hrep⟩ := hq
    obtain ⟨xS, rfl⟩ := hrep.stX
    have hc := (hc.call hq).1.know (X := fun S w => RepS S w k.b (stX k.b xS)) (hrep.map fun h => h.sub fun b h => h.elim (fun h => h.elim) .inr) (stab_S _ _)
    refine ⟨_, e1, ?_⟩
    refine ⟨hc.may 0 rfl _ _ (nle rfl) rfl, ?_⟩
    intro wS hS
    have hc := (hc.set 0 rfl hS).1
    obtain ⟨S3, _, hc⟩ := hc.told
    have hc := hc.now (X := KnR k xS A2 c2) (fun h => ⟨h.1.2, h.2⟩) (KnR.stab _ _ _ _)
    refine drawn lay_ok (by kernel_rfl) (.q 1 (.q 2 (.q 3 (.q 6 (.n 0 (.n 4 (.n 5 (.q 7 (.q 8 (.n 9 (.q 10 .fin) .stop))) .stop) .stop) (.n 4 (.n 0 (.n 5 (.q 7 (.q 8 (.n 9 (.q 10 .fin) .stop))) .stop) (.n 5 (.q 7 (.q 8 (.n 0 (.n 9 (.q 10 .fin) .stop) .stop))) .stop)) .stop)))))) (fun _ => True) (by kernel_rfl) trivial ?_
    have hc := hc.drew
    refine ⟨?_, ?_⟩
    · skip
      refine ⟨_, ?_, hc.cells 0 rfl, trivial, ?_⟩
      · rfl
      refine ⟨?_, trivial⟩
      refine ⟨_, ?_, hc.cells 0 rfl, trivial, ?_⟩
      · rfl
      refine ⟨?_, trivial⟩
      refine call_b (text_any k h xS A2 c2 S3 _ hc.row (hw.below hc.below).tab) ?_
      intro wQ hQ
      have hc := (hc.quiet hQ).1
      refine ⟨trivial, ?_⟩
      refine ⟨?_, trivial⟩
      refine ⟨hc.may 2 rfl _ _ (nle rfl) rfl, ?_⟩
      intro wS hS
      have hc := (hc.set 2 rfl hS).1
      refine ⟨trivial, ?_⟩
      refine ⟨_, ?_, hc.cells 2 rfl, ?_⟩
      · rfl
      refine ⟨xS, A2, c2, ?_, hc.below, hc.out⟩
      rw [strEq_self]
      rfl
    refine ⟨?_, trivial⟩
    refine ⟨_, ?_, hc.cells 0 rfl, trivial, ?_⟩
    · rfl
    refine ⟨?_, ?_⟩
    · skip
      refine ⟨_, ?_, hc.cells 0 rfl, trivial, ?_⟩
      · rfl
      refine ⟨?_, trivial⟩
      refine call_b (text_any k h xS A2 c2 S3 _ hc.row (hw.below hc.below).tab) ?_
      intro wQ hQ
      have hc := (hc.quiet hQ).1
      refine ⟨trivial, ?_⟩
      refine ⟨?_, trivial⟩
      refine ⟨hc.may 2 rfl _ _ (nle rfl) rfl, ?_⟩
      intro wS hS
      have hc := (hc.set 2 rfl hS).1
      refine ⟨trivial, ?_⟩
      refine ⟨_, ?_, hc.cells 2 rfl, ?_⟩
      · rfl
      refine ⟨xS, A2, c2, ?_, hc.below, hc.out⟩
      rw [strEq_self]
      rfl
    refine ⟨?_, trivial⟩
    refine call_b (text_any k h xS A2 c2 S3 _ hc.row (hw.below hc.below).tab) ?_
    intro wQ hQ
    have hc := (hc.quiet hQ).1
    refine ⟨trivial, ?_⟩
    refine ⟨?_, trivial⟩
    refine ⟨_, ?_, hc.cells 0 rfl, trivial, ?_⟩
    · rfl
    refine ⟨?_, trivial⟩
    refine ⟨hc.may 2 rfl _ _ (nle rfl) rfl, ?_⟩
    intro wS hS
    have hc := (hc.set 2 rfl hS).1
    refine ⟨trivial, ?_⟩
    refine ⟨_, ?_, hc.cells 2 rfl, ?_⟩
    · rfl
    refine ⟨xS, A2, c2, ?_, hc.below, hc.out⟩
    rw [strEq_self]
    rfl
end Go.Proofs.YtokglimimnelaaaGreatDoor
