import Derived.Test.YtokglimimnelaaaGreatDoorM03
import Derived.Laws.StructEq
set_option linter.unusedVariables false
set_option linter.unusedSimpArgs false
namespace Go.Proofs.YtokglimimnelaaaGreatDoor
open Go.Vc Go.RowKit Go.Fl
set_option maxRecDepth 100000
structure Ver where
  ver : Int
  gone : Bool
  body : ByteArray
structure Ent where
  key : ByteArray
  vs : List Ver
structure Res where
  err : Int
  ver : Int
structure Mem where
  req : Int
  res : Res
structure Stt where
  seq : Int
  l : List Ent
  ms : List Mem
  lows : List Int
def verC (v : Ver) : List Value := [.int .i64 v.ver, .bool v.gone, .string v.body]
def memC (m : Mem) : List Value := [.int .i64 m.req, .int .i64 m.res.err, .int .i64 m.res.ver]
def lowC (n : Int) : Value := .int .i64 n
def Flat (k : Nat) (css : List (List Value)) : Prop := ∀ c ∈ css, c.length = k ∧ allOne c = true
theorem Flat.len {k : Nat} : ∀ {css : List (List Value)}, Flat k css → css.flatten.length = css.length * k
  | [], _ => by simp
  | c :: r, h => by
    rw [List.flatten_cons, List.length_append, (h c (by simp)).1, Flat.len (fun x hx => h x (by simp [hx])), List.length_cons, Nat.succ_mul, Nat.add_comm]
theorem Flat.get {k : Nat} : ∀ {css : List (List Value)}, Flat k css → ∀ (i : Nat) (hi : i < css.length) (j : Nat) (u : Value), css[i][j]? = some u → css.flatten[i * k + j]? = some u
  | c :: r, h, 0, _, j, u, hu => by
    have hj : j < c.length := by
      rcases Nat.lt_or_ge j c.length with h | h
      · exact h
      · rw [List.getElem_cons_zero, List.getElem?_eq_none h] at hu; cases hu
    rw [List.flatten_cons, Nat.zero_mul, Nat.zero_add, List.getElem?_append_left hj]
    exact hu
  | c :: r, h, i + 1, hi, j, u, hu => by
    have hc := (h c (by simp)).1
    rw [List.flatten_cons, List.getElem?_append_right (by rw [hc, Nat.succ_mul]; omega), hc, show (i + 1) * k + j - k = i * k + j from by rw [Nat.succ_mul]; omega]
    exact Flat.get (fun x hx => h x (by simp [hx])) i (Nat.lt_of_succ_lt_succ hi) j u hu
theorem Flat.take {k : Nat} {css : List (List Value)} (h : Flat k css) (n : Nat) : Flat k (css.take n) := fun c hc => h c (List.mem_of_mem_take hc)
theorem Flat.drop {k : Nat} {css : List (List Value)} (h : Flat k css) (n : Nat) : Flat k (css.drop n) := fun c hc => h c (List.mem_of_mem_drop hc)
theorem Flat.append {k : Nat} {a b : List (List Value)} (ha : Flat k a) (hb : Flat k b) : Flat k (a ++ b) := fun c hc => by
  rw [List.mem_append] at hc
  rcases hc with h | h
  · exact ha c h
  · exact hb c h
theorem Flat.map {α : Type} {k : Nat} (f : α → List Value) (hf : ∀ a, (f a).length = k ∧ allOne (f a) = true) (l : List α) : Flat k (l.map f) := fun c hc => by
  obtain ⟨a, _, rfl⟩ := List.mem_map.1 hc
  exact hf a
theorem Flat.flat_take {k : Nat} : ∀ {css : List (List Value)}, Flat k css → ∀ i, (css.take i).flatten = css.flatten.take (i * k)
  | [], _, i => by simp
  | c :: r, h, 0 => by simp
  | c :: r, h, i + 1 => by
    have hc := (h c (by simp)).1
    rw [List.take_succ_cons, List.flatten_cons, List.flatten_cons, Flat.flat_take (fun x hx => h x (by simp [hx])) i, Nat.succ_mul, List.take_append, hc, List.take_of_length_le (l := c) (by omega), show i * k + k - k = i * k from by omega]
theorem Flat.flat_drop {k : Nat} {css : List (List Value)} (h : Flat k css) (i : Nat) : (css.drop i).flatten = css.flatten.drop (i * k) := by
  have e : css.flatten = (css.take i).flatten ++ (css.drop i).flatten := by rw [← List.flatten_append, List.take_append_drop]
  rcases Nat.lt_or_ge i css.length with hi | hi
  · rw [e, List.drop_left' (by rw [Flat.len (h.take i), List.length_take, Nat.min_eq_left (Nat.le_of_lt hi)])]
  · rw [List.drop_of_length_le hi, List.drop_of_length_le (by rw [h.len]; exact Nat.mul_le_mul_right _ hi)]
    rfl
theorem Flat.ones {k : Nat} : ∀ {css : List (List Value)}, Flat k css → allOne css.flatten = true
  | [], _ => rfl
  | c :: r, h => by
    refine allOne_of fun v hv => ?_
    rw [List.flatten_cons, List.mem_append] at hv
    rcases hv with hv | hv
    · exact allOne_mem (h c (by simp)).2 v hv
    · exact allOne_mem (Flat.ones (css := r) fun x hx => h x (by simp [hx])) v hv
theorem shape2 {c : List Value} (h : c.length = 2) : ∃ a b, c = [a, b] := by
  match c, h with
  | [a, b], _ => exact ⟨a, b, rfl⟩
theorem shape3 {c : List Value} (h : c.length = 3) : ∃ a b d, c = [a, b, d] := by
  match c, h with
  | [a, b, d], _ => exact ⟨a, b, d, rfl⟩
theorem Row.elemF {S : Nat → Prop} {w : World} {A : Option Addr} {n cap k : Nat} {css : List (List Value)} (hR : Row S w A n cap css.flatten) (hk : 0 < k) (hF : Flat k css) (i : Nat) (hi : i < css.length) :
    ∃ ad, A = some ad ∧ Go.Vc.cellsAt w (ad.add (i * k)) css[i] 0 := by
  have hx := hF.len
  have h1 : (i + 1) * k ≤ css.length * k := Nat.mul_le_mul_right _ hi
  rw [Nat.succ_mul] at h1
  obtain ⟨ad, e, hc⟩ := hR.get (i := i * k) (by omega)
  refine ⟨ad, e, ?_⟩
  exact row_cells hc (i * k) css[i] 0 (fun j u hu => by rw [Nat.add_zero]; exact hF.get i hi j u hu)
def RepE (S : Nat → Prop) (w : World) (e : Ent) (cs : List Value) : Prop := ∃ A cap, cs = [.string e.key, .slice A e.vs.length cap] ∧ Row S w A e.vs.length cap (e.vs.map verC).flatten
def RepEs (S : Nat → Prop) (w : World) : List Ent → List (List Value) → Prop
  | [], css => css = []
  | e :: r, css => ∃ c t, css = c :: t ∧ RepE S w e c ∧ RepEs S w r t
theorem RepE.map {S S' : Nat → Prop} {w w' : World} (h : ∀ {A : Option Addr} {n cap : Nat} {xs : List Value}, Row S w A n cap xs → Row S' w' A n cap xs) {e : Ent} {cs : List Value} (hr : RepE S w e cs) : RepE S' w' e cs := by
  obtain ⟨A, cap, e1, e2⟩ := hr
  exact ⟨A, cap, e1, h e2⟩
theorem RepEs.map {S S' : Nat → Prop} {w w' : World} (h : ∀ {A : Option Addr} {n cap : Nat} {xs : List Value}, Row S w A n cap xs → Row S' w' A n cap xs) : ∀ {l : List Ent} {css : List (List Value)}, RepEs S w l css → RepEs S' w' l css
  | [], _, hr => hr
  | e :: r, _, ⟨c, t, e1, e2, e3⟩ => ⟨c, t, e1, e2.map h, RepEs.map h e3⟩
theorem RepE.below {S : Nat → Prop} {w w' : World} {e : Ent} {cs : List Value} (h : RepE S w e cs) (hb : Below w.heap.size w w') : RepE S w' e cs := h.map (fun h => h.below hb)
theorem RepEs.below {S : Nat → Prop} {w w' : World} {l : List Ent} {css : List (List Value)} (h : RepEs S w l css) (hb : Below w.heap.size w w') : RepEs S w' l css := h.map (fun h => h.below hb)
theorem RepEs.len {S : Nat → Prop} {w : World} : ∀ {l : List Ent} {css : List (List Value)}, RepEs S w l css → css.length = l.length
  | [], _, h => by rw [show _ = [] from h]; rfl
  | e :: r, _, ⟨c, t, e1, e2, e3⟩ => by rw [e1, List.length_cons, e3.len, List.length_cons]
theorem RepEs.flat {S : Nat → Prop} {w : World} : ∀ {l : List Ent} {css : List (List Value)}, RepEs S w l css → Flat 2 css
  | [], _, h => by rw [show _ = [] from h]; intro c hc; cases hc
  | e :: r, _, ⟨c, t, e1, ⟨A, cap, e2, _⟩, e3⟩ => by
    rw [e1]
    intro x hx
    cases hx with
    | head => rw [e2]; exact ⟨rfl, rfl⟩
    | tail _ hx => exact e3.flat x hx
theorem RepEs.get {S : Nat → Prop} {w : World} : ∀ {l : List Ent} {css : List (List Value)}, RepEs S w l css → ∀ (i : Nat) (hi : i < l.length) (hj : i < css.length), RepE S w l[i] css[i]
  | e :: r, _, ⟨c, t, e1, e2, e3⟩, 0, _, _ => by subst e1; exact e2
  | e :: r, _, ⟨c, t, e1, e2, e3⟩, i + 1, hi, hj => by subst e1; exact e3.get i (Nat.lt_of_succ_lt_succ hi) (Nat.lt_of_succ_lt_succ hj)
theorem RepEs.append {S : Nat → Prop} {w : World} : ∀ {l m : List Ent} {a b : List (List Value)}, RepEs S w l a → RepEs S w m b → RepEs S w (l ++ m) (a ++ b)
  | [], _, _, _, h, hb => by rw [show _ = [] from h]; exact hb
  | e :: r, _, _, _, ⟨c, t, e1, e2, e3⟩, hb => by subst e1; exact ⟨c, _, rfl, e2, e3.append hb⟩
theorem RepEs.take {S : Nat → Prop} {w : World} : ∀ {l : List Ent} {css : List (List Value)} (i : Nat), RepEs S w l css → RepEs S w (l.take i) (css.take i)
  | _, _, 0, _ => by simp [RepEs]
  | [], _, i + 1, h => by rw [show _ = [] from h]; simp [RepEs]
  | e :: r, _, i + 1, ⟨c, t, e1, e2, e3⟩ => by subst e1; exact ⟨c, _, rfl, e2, e3.take i⟩
theorem RepEs.drop {S : Nat → Prop} {w : World} : ∀ {l : List Ent} {css : List (List Value)} (i : Nat), RepEs S w l css → RepEs S w (l.drop i) (css.drop i)
  | _, _, 0, h => h
  | [], _, i + 1, h => by rw [show _ = [] from h]; simp [RepEs]
  | e :: r, _, i + 1, ⟨c, t, e1, e2, e3⟩ => by subst e1; exact e3.drop i
def RepS (S : Nat → Prop) (w : World) (s : Stt) (cs : List Value) : Prop :=
  ∃ A cap css B cap', cs = [.int .i64 s.seq, .slice A s.l.length cap, .slice B s.ms.length cap'] ++ s.lows.map lowC ∧ s.lows.length = 5 ∧ RepEs S w s.l css ∧ Row S w A s.l.length cap css.flatten ∧ Row S w B s.ms.length cap' (s.ms.map memC).flatten
theorem RepS.map {S S' : Nat → Prop} {w w' : World} (h : ∀ {A : Option Addr} {n cap : Nat} {xs : List Value}, Row S w A n cap xs → Row S' w' A n cap xs) {s : Stt} {cs : List Value} (hr : RepS S w s cs) : RepS S' w' s cs := by
  obtain ⟨A, cap, css, B, cap', e1, e2, e3, e4, e5⟩ := hr
  exact ⟨A, cap, css, B, cap', e1, e2, e3.map h, h e4, h e5⟩
theorem RepS.below {S : Nat → Prop} {w w' : World} {s : Stt} {cs : List Value} (h : RepS S w s cs) (hb : Below w.heap.size w w') : RepS S w' s cs := h.map (fun h => h.below hb)
def Ver0 : Ver := ⟨0, false, ⟨#[]⟩⟩
def eqVer (a b : Ver) : Bool := a.ver == b.ver && a.gone == b.gone && strEq a.body b.body
theorem strEq_iff {a b : ByteArray} : strEq a b = true ↔ a = b := by
  unfold strEq
  rw [beq_iff_eq]
  constructor
  · intro h
    cases a; cases b
    simpa using h
  · intro h; rw [h]
theorem eqVer_iff {a b : Ver} : eqVer a b = true ↔ a = b := by
  obtain ⟨a1, a2, a3⟩ := a
  obtain ⟨b1, b2, b3⟩ := b
  simp [eqVer, strEq_iff, and_assoc]
def eqMem (a b : Mem) : Bool := a.req == b.req && a.res.err == b.res.err && a.res.ver == b.res.ver
theorem eqMem_iff {a b : Mem} : eqMem a b = true ↔ a = b := by
  obtain ⟨a1, a2, a3⟩ := a
  obtain ⟨b1, b2, b3⟩ := b
  simp [eqMem, and_assoc]
def eqAll {α : Type} (p : α → α → Bool) : List α → List α → Bool
  | [], [] => true
  | a :: r, b :: t => p a b && eqAll p r t
  | [], _ :: _ => false
  | _ :: _, [] => false
theorem eqAll_iff {α : Type} {p : α → α → Bool} (hp : ∀ a b, p a b = true ↔ a = b) : ∀ {a b : List α}, eqAll p a b = true ↔ a = b
  | [], [] => by simp [eqAll]
  | a :: r, b :: t => by simp [eqAll, hp, eqAll_iff hp (a := r) (b := t)]
  | [], _ :: _ => by simp [eqAll]
  | _ :: _, [] => by simp [eqAll]
theorem eqAll_len {α : Type} (p : α → α → Bool) : ∀ (a b : List α), a.length ≠ b.length → eqAll p a b = false
  | [], [], h => absurd rfl h
  | a :: r, b :: t, h => by rw [eqAll, eqAll_len p r t (fun e => h (by rw [List.length_cons, List.length_cons, e])), Bool.and_false]
  | [], _ :: _, _ => by rw [eqAll]
  | _ :: _, [], _ => by rw [eqAll]
def eqE (a b : Ent) : Bool := strEq a.key b.key && eqAll eqVer a.vs b.vs
theorem eqE_iff {a b : Ent} : eqE a b = true ↔ a = b := by
  obtain ⟨a1, a2⟩ := a
  obtain ⟨b1, b2⟩ := b
  simp [eqE, strEq_iff, eqAll_iff (fun a b => eqVer_iff)]
def eqS (a b : Stt) : Bool := a.seq == b.seq && a.lows == b.lows && eqAll eqMem a.ms b.ms && eqAll eqE a.l b.l
theorem eqS_iff {a b : Stt} : eqS a b = true ↔ a = b := by
  obtain ⟨a1, a2, a3, a4⟩ := a
  obtain ⟨b1, b2, b3, b4⟩ := b
  simp [eqS, eqAll_iff (fun a b => eqMem_iff), eqAll_iff (fun a b => eqE_iff)]
  constructor
  · rintro ⟨⟨⟨h1, h2⟩, h3⟩, h4⟩; exact ⟨h1, h4, h3, h2⟩
  · rintro ⟨h1, h4, h3, h2⟩; exact ⟨⟨⟨h1, h2⟩, h3⟩, h4⟩
def verOk (v : Ver) : Bool := decide (1 ≤ v.ver) && decide (v.ver ≤ 1099511627776) && decide ((v.body.size : Int) ≤ 300) && (!v.gone || mt v.body)
def risV : Int → List Ver → Bool
  | _, [] => true
  | a, v :: r => verOk v && decide (a < v.ver) && risV v.ver r
def mayE (e : Ent) : Bool := risV 0 e.vs && keyB e.key && decide (1 ≤ e.vs.length) && decide (e.vs.length ≤ 12)
def lastV (l : List Ver) : Ver := l.getLastD Ver0
def nowE (e : Ent) : Ver × Bool := if e.vs.length = 0 then (Ver0, false) else (lastV e.vs, !(lastV e.vs).gone)
def idxV : List Ver → Int → Option Nat
  | [], _ => none
  | v :: r, n => if v.ver == n then some 0 else (idxV r n).map (· + 1)
def addE (e : Ent) (v : Ver) : Ent × Bool := if (e.vs.length ≠ 0 ∧ v.ver ≤ (lastV e.vs).ver) ∨ 12 ≤ e.vs.length then (e, false) else (⟨e.key, e.vs ++ [v]⟩, true)
def purgeE (e : Ent) (n : Int) : Ent × Bool :=
  match idxV e.vs n with
  | none => (e, false)
  | some i => (⟨e.key, e.vs.take i ++ e.vs.drop (i + 1)⟩, true)
def tagOf (s : ByteArray) : ByteArray := ⟨(zText (zOn (0, 1) s.data.toList)).toArray⟩
def holdsE (e : Ent) (c : Int) (tag : ByteArray) : Bool := if c == 0 then true else if c == 1 then !(nowE e).2 else if c == 2 then (nowE e).2 && strEq (tagOf (nowE e).1.body) tag else false
set_option maxRecDepth 100000
theorem bytesLess_irrefl : ∀ a : List UInt8, Op.bytesLess a a = false
  | [] => rfl
  | x :: r => by simp [Op.bytesLess, bytesLess_irrefl r]
theorem bytesLess_tri : ∀ a b : List UInt8, (!Op.bytesLess a b) = (Op.bytesLess b a || b == a)
  | [], [] => by simp [Op.bytesLess]
  | [], y :: t => by simp [Op.bytesLess]
  | x :: r, [] => by simp [Op.bytesLess]
  | x :: r, y :: t => by
    have ih := bytesLess_tri r t
    simp only [Op.bytesLess]
    by_cases h1 : x < y
    · have h2 : ¬ y < x := UInt8.not_lt.2 (UInt8.le_of_lt h1)
      have h3 : y ≠ x := fun e => by subst e; exact UInt8.lt_irrefl _ h1
      simp [h1, h2, h3]
    · by_cases h2 : y < x
      · have h3 : y ≠ x := fun e => by subst e; exact UInt8.lt_irrefl _ h2
        have h4 : x ≠ y := fun e => h3 e.symm
        simp [h1, h2, h3, h4]
      · have h3 : x = y := UInt8.le_antisymm (UInt8.not_lt.1 h2) (UInt8.not_lt.1 h1)
        subst h3
        simpa using ih
theorem bytesLess_trans : ∀ a b c : List UInt8, Op.bytesLess a b = true → Op.bytesLess b c = true → Op.bytesLess a c = true
  | a, [], c, h1, h2 => by cases a <;> simp [Op.bytesLess] at h1
  | a, y :: t, [], h1, h2 => by simp [Op.bytesLess] at h2
  | [], y :: t, z :: u, h1, h2 => by simp [Op.bytesLess]
  | x :: r, y :: t, z :: u, h1, h2 => by
    simp only [Op.bytesLess] at *
    have ih := bytesLess_trans r t u
    by_cases e1 : x < y
    · by_cases e2 : y < z
      · simp [UInt8.lt_trans e1 e2]
      · by_cases e3 : y = z
        · subst e3; simp [e1]
        · simp [e2, e3] at h2
    · by_cases e4 : x = y
      · subst e4
        simp [UInt8.lt_irrefl] at h1
        by_cases e2 : x < z
        · simp [e2]
        · by_cases e3 : x = z
          · subst e3
            simp [UInt8.lt_irrefl] at h2
            simp [UInt8.lt_irrefl, ih h1 h2]
          · simp [e2, e3] at h2
      · simp [e1, e4] at h1
theorem strLt_irrefl (a : ByteArray) : strLt a a = false := bytesLess_irrefl _
theorem strLt_tri (a b : ByteArray) : (!strLt a b) = (strLt b a || strEq b a) := bytesLess_tri _ _
theorem strLt_trans {a b c : ByteArray} (h : strLt a b = true) (k : strLt b c = true) : strLt a c = true := bytesLess_trans _ _ _ h k
theorem strLt_ne {a b : ByteArray} (h : strLt a b = true) : strEq a b = false := by
  cases e : strEq a b
  · rfl
  · rw [strEq_iff] at e
    subst e
    rw [strLt_irrefl] at h; cases h
def maxN : Int := 1099511627776
def risE (seq : Int) : Option ByteArray → List Ent → Bool
  | _, [] => true
  | p, e :: r => mayE e && decide ((lastV e.vs).ver ≤ seq) && (match p with | none => true | some k => strLt k e.key) && risE seq (some e.key) r
def lowsB : Nat → List Int → Bool
  | _, [] => true
  | i, x :: r => (x == 0 || homeI x == (i : Int) + 1) && lowsB (i + 1) r
def lowAt (lows : List Int) (h : Int) : Int := lows.getD (h - 1).toNat 0
def memB (lows : List Int) (seq : Int) : Option Int → List Mem → Bool
  | _, [] => true
  | p, m :: r => !(homeI m.req == 0) && decide (lowAt lows (homeI m.req) ≤ m.req) && (match p with | none => true | some q => decide (q < m.req)) &&
      decide (0 ≤ m.res.err) && decide (m.res.err ≤ 13) && decide (0 ≤ m.res.ver) && decide (m.res.ver ≤ seq) && memB lows seq (some m.req) r
def mayS (s : Stt) : Bool :=
  decide (0 ≤ s.seq) && decide (s.seq ≤ maxN) && decide (s.l.length ≤ 40) && decide (s.ms.length ≤ 100) && risE s.seq none s.l && lowsB 0 s.lows && memB s.lows s.seq none s.ms
def posK : List Ent → ByteArray → Nat
  | [], _ => 0
  | e :: r, k => if strLt e.key k then posK r k + 1 else 0
def posM : List Mem → Int → Nat
  | [], _ => 0
  | m :: r, n => if m.req < n then posM r n + 1 else 0
def entAt (l : List Ent) (k : ByteArray) : Option Ent :=
  match l[posK l k]? with
  | some e => if strEq e.key k then some e else none
  | none => none
def memAt (l : List Mem) (n : Int) : Option Mem :=
  match l[posM l n]? with
  | some m => if m.req == n then some m else none
  | none => none
def putK (l : List Ent) (k : ByteArray) (has : Bool) (e : List Ent) : List Ent := l.take (posK l k) ++ e ++ l.drop (if has then posK l k + 1 else posK l k)
def doK (l : List Ent) (seq : Int) (d : D) : List Ent × Res :=
  let has := (entAt l d.key).isSome
  let e := (entAt l d.key).getD ⟨d.key, []⟩
  if d.kind == 3 then
    match idxV e.vs d.ver with
    | none => (l, ⟨6, 0⟩)
    | some j => (putK l d.key has (if (e.vs.take j ++ e.vs.drop (j + 1)).length = 0 then [] else [⟨e.key, e.vs.take j ++ e.vs.drop (j + 1)⟩]), ⟨0, d.ver⟩)
  else if d.kind == 1 && !holdsE e d.cond d.tag then (l, ⟨9, 0⟩)
  else if d.kind == 2 && !has then (l, ⟨6, 0⟩)
  else if 12 ≤ e.vs.length || (!has && decide (40 ≤ l.length)) then (l, ⟨5, 0⟩)
  else (putK l d.key has [⟨e.key, e.vs ++ [⟨seq, d.kind == 2, d.body⟩]⟩], ⟨0, seq⟩)
def keepM (low : Int) (h : Int) (l : List Mem) : List Mem := l.filter fun m => !(decide (m.req < low) && homeI m.req == h)
def doS (s : Stt) (d : D) : Stt × Res :=
  if !mayS s || !mayD d then (s, ⟨1, 0⟩)
  else if maxN ≤ s.seq then (s, ⟨5, 0⟩)
  else if d.req < lowAt s.lows (homeI d.req) then (⟨s.seq + 1, s.l, s.ms, s.lows⟩, ⟨12, 0⟩)
  else match memAt s.ms d.req with
    | some m => (⟨s.seq + 1, s.l, s.ms, s.lows⟩, m.res)
    | none =>
      if 100 ≤ s.ms.length then (⟨s.seq + 1, s.l, s.ms, s.lows⟩, ⟨5, 0⟩)
      else
        let q := doK s.l (s.seq + 1) d
        let ms := s.ms.take (posM s.ms d.req) ++ ⟨d.req, q.2⟩ :: s.ms.drop (posM s.ms d.req)
        if lowAt s.lows (homeI d.req) < d.low ∧ homeI d.low = homeI d.req then
          (⟨s.seq + 1, q.1, keepM d.low (homeI d.req) ms, s.lows.set (homeI d.req - 1).toNat d.low⟩, q.2)
        else (⟨s.seq + 1, q.1, ms, s.lows⟩, q.2)
def idxK : List Ent → ByteArray → Option Nat
  | [], _ => none
  | e :: r, k => if strEq e.key k then some 0 else (idxK r k).map (· + 1)
def getS (s : Stt) (k : ByteArray) (n : Int) : Ver × Int :=
  match (idxK s.l k).bind fun i => s.l[i]? with
  | none => (Ver0, 6)
  | some e =>
    let q : Option Ver := if n = 0 then (if e.vs.length = 0 then none else some (lastV e.vs)) else (idxV e.vs n).bind fun i => e.vs[i]?
    match q with
    | none => (Ver0, 6)
    | some v => if v.gone then (Ver0, 10) else (v, 0)
def hasPre (s p : ByteArray) : Bool := p.data.toList.isPrefixOf s.data.toList
def pageL (l : List Ent) (pre after : ByteArray) (now : Bool) : List Ent := l.filter fun e => hasPre e.key pre && strLt after e.key && (!now || (nowE e).2)
def clampN (n : Int) : Nat := (min (max n 1) 20).toNat
def pageS (s : Stt) (pre after : ByteArray) (most : Int) (now : Bool) : List Ent × Bool :=
  ((pageL s.l pre after now).take (clampN most), decide (clampN most < (pageL s.l pre after now).length))
def vNum (n : Int) : V := .mk 1 n ⟨#[]⟩ []
def vStr (s : ByteArray) : V := .mk 2 0 s []
def vRow (l : List V) : V := .mk 3 0 ⟨#[]⟩ l
def vVer (v : Ver) : V := vRow [vNum v.ver, vNum (if v.gone then 1 else 0), vStr v.body]
def vEnt (e : Ent) : V := vRow [vStr e.key, vRow (e.vs.map vVer)]
def vMem (m : Mem) : V := vRow [vNum m.req, vNum m.res.err, vNum m.res.ver]
def vStt (s : Stt) : V := vRow [vNum s.seq, vRow (s.l.map vEnt), vRow (s.ms.map vMem), vRow (s.lows.map vNum)]
def putStt (s : Stt) : List UInt8 := if mayS s then putS (vStt s) else []
def vN : V → Int | .mk _ n _ _ => n
def vS : V → ByteArray | .mk _ _ s _ => s
def vL : V → List V | .mk _ _ _ l => l
def atV (v : V) (i : Nat) : V := (vL v).getD i V0
def verV (v : V) : Ver := ⟨vN (atV v 0), vN (atV v 1) == 1, vS (atV v 2)⟩
def entV (v : V) : Ent := ⟨vS (atV v 0), (vL (atV v 1)).map verV⟩
def memV (v : V) : Mem := ⟨vN (atV v 0), ⟨vN (atV v 1), vN (atV v 2)⟩⟩
def sttV (v : V) : Stt := ⟨vN (atV v 0), (vL (atV v 1)).map entV, (vL (atV v 2)).map memV, (List.range 5).map fun i => vN (atV (atV v 3) i)⟩
def Stt0 : Stt := ⟨0, [], [], [0, 0, 0, 0, 0]⟩
def readStt (t : List UInt8) : Stt × Int :=
  if (allV t).2 ≠ 0 then (Stt0, 1)
  else if putStt (sttV (allV t).1) = [] ∨ putStt (sttV (allV t).1) ≠ t then (Stt0, 1)
  else (sttV (allV t).1, 0)
set_option maxRecDepth 100000
mutual
theorem eqV_refl : ∀ (a : V), eqV a a = true
  | .mk k n s l => by
    rw [eqV, eqL_refl l]
    simp [strEq_iff]
theorem eqL_refl : ∀ (a : List V), eqL a a = true
  | [] => by rw [eqL]
  | x :: r => by rw [eqL, eqV_refl x, eqL_refl r]; rfl
end
def D0 : D := ⟨0, ⟨#[]⟩, ⟨#[]⟩, 0, 0, ⟨#[]⟩, 0, 0⟩
def vDeed (d : D) : V := vRow [vNum d.kind, vStr d.key, vStr d.body, vNum d.ver, vNum d.cond, vStr d.tag, vNum d.req, vNum d.low]
def valD' (d : D) : V := if mayD d then vDeed d else V0
def deedV (v : V) : D := ⟨vN (atV v 0), vS (atV v 1), vS (atV v 2), vN (atV v 3), vN (atV v 4), vS (atV v 5), vN (atV v 6), vN (atV v 7)⟩
def vK : V → Int | .mk k _ _ _ => k
def ofD (v : V) : D × Bool :=
  if vK v ≠ 3 ∨ (vL v).length ≠ 8 then (D0, false)
  else if mayD (deedV v) = false ∨ eqV (valD' (deedV v)) v = false then (D0, false)
  else (deedV v, true)
def putD (d : D) : List UInt8 := putS (valD' d)
def getD' (s : List UInt8) : D × Int := if (allV s).2 ≠ 0 ∨ (ofD (allV s).1).2 = false then (D0, 1) else ((ofD (allV s).1).1, 0)
theorem ofD_vDeed (d : D) (h : mayD d = true) : ofD (vDeed d) = (d, true) := by
  have e : deedV (vDeed d) = d := rfl
  unfold ofD
  rw [e, valD', if_pos h, eqV_refl]
  simp [vDeed, vK, vL, vRow, h]
theorem mayV_vDeed (d : D) : mayV (vDeed d) = true := by
  simp [mayV, vDeed, vRow, vNum, vStr, cnt, cntL, mt, strEq]
theorem itoa_len (n : Int) (h : i64ok n) : (Lib.itoa n).length ≤ 21 := Lib.itoa_length_le n h.1 h.2
theorem putV_num (n : Int) (h : i64ok n) : (putV (vNum n)).length ≤ 30 := by
  have h1 := itoa_len n h
  rw [putV_len]
  have e : txtV (vNum n) = Lib.itoa n := rfl
  have := dec_len7 (u := (Lib.itoa n).length) (by omega)
  rw [e]
  omega
theorem putV_str (s : ByteArray) (h : s.size < 10000000) : (putV (vStr s)).length ≤ s.size + 9 := by
  rw [putV_len]
  have e : (txtV (vStr s)).length = s.size := ba_len s
  have := dec_len7 h
  rw [e]
  omega
theorem keyB_len {s : ByteArray} (h : keyB s = true) : s.size ≤ 40 := by
  simp only [keyB, keyL, Bool.and_eq_true, decide_eq_true_eq] at h
  rw [← ba_len s]
  exact h.2
theorem tagB_len {s : ByteArray} (h : (tagB s || mt s) = true) : s.size ≤ 8 := by
  rw [Bool.or_eq_true] at h
  rcases h with h | h
  · rcases Nat.decEq s.data.toList.length 8 with h8 | h8
    · rw [tagB, zRead_not _ (.inl h8)] at h; cases h
    · rw [← ba_len s, h8]; exact Nat.le_refl _
  · rw [mt_empty h]; decide
theorem mayD_sizes {d : D} (h : mayD d = true) : d.key.size ≤ 40 ∧ d.body.size ≤ 300 ∧ d.tag.size ≤ 8 := by
  unfold mayD at h
  rw [Bool.and_eq_true] at h
  obtain ⟨h0, h1⟩ := h
  simp only [Bool.and_eq_true] at h0
  refine ⟨keyB_len h0.1.1.1, ?_⟩
  split at h1
  · simp only [Bool.and_eq_true, decide_eq_true_eq] at h1
    exact ⟨by omega, tagB_len h1.2⟩
  · split at h1
    · simp only [Bool.and_eq_true] at h1
      rw [mt_empty h1.1.1.1, mt_empty h1.1.2]
      exact ⟨by decide, by decide⟩
    · split at h1
      · simp only [Bool.and_eq_true] at h1
        rw [mt_empty h1.1.1.1.1, mt_empty h1.1.1.2]
        exact ⟨by decide, by decide⟩
      · cases h1
theorem txt_vDeed (d : D) (hk : d.Ok) (h : mayD d = true) : (txtV (vDeed d)).length ≤ 1000 := by
  obtain ⟨h1, h2, h3⟩ := mayD_sizes h
  have e : txtV (vDeed d) = putV (vNum d.kind) ++ (putV (vStr d.key) ++ (putV (vStr d.body) ++ (putV (vNum d.ver) ++ (putV (vNum d.cond) ++ (putV (vStr d.tag) ++ (putV (vNum d.req) ++ (putV (vNum d.low) ++ []))))))) := by
    simp [txtV, vDeed, vRow, putL]
  have a1 := putV_num d.kind hk.kind
  have a2 := putV_num d.ver hk.ver
  have a3 := putV_num d.cond hk.cond
  have a4 := putV_num d.req hk.req
  have a5 := putV_num d.low hk.low
  have a6 := putV_str d.key (by omega)
  have a7 := putV_str d.body (by omega)
  have a8 := putV_str d.tag (by omega)
  rw [e]
  simp only [List.length_append, List.length_nil]
  omega
theorem okV_vDeed (d : D) (hk : d.Ok) : okV (vDeed d) := by
  have z : i64ok 0 := by unfold i64ok; omega
  simp [okV, okL, vDeed, vRow, vNum, vStr, hk.kind, hk.ver, hk.cond, hk.req, hk.low, z]
theorem putD_may (d : D) (hk : d.Ok) (h : mayD d = true) : putD d = putV (vDeed d) := by
  have h1 := txt_vDeed d hk h
  have := dec_len7 (u := (txtV (vDeed d)).length) (by omega)
  rw [putD, valD', if_pos h, putS, mayV_vDeed]
  simp [this]
theorem putV_ne (v : V) : putV v ≠ [] := fun h => by
  have := putV_len v
  rw [h] at this
  simp at this
theorem getD_put (d : D) (hk : d.Ok) (h : mayD d = true) : getD' (putD d) = (d, 0) := by
  have h1 := txt_vDeed d hk h
  rw [putD_may d hk h]
  unfold getD'
  rw [allV_put _ (mayV_vDeed d) (okV_vDeed d hk) (by omega), ofD_vDeed d h]
  simp
set_option maxRecDepth 100000
theorem num_any (n : Int) (w : World) : Calls Tryz.prog 84 #[.int .i64 n] w (RetB (.agg #[.int .i64 1, .int .i64 n, .string ⟨#[]⟩, .slice none 0 0]) w) := by
  refine calls_vc lay_ok Tryz.func84 rfl (by kernel_rfl) (by kernel_rfl) ?_
  have hc := Ctx.start w no (fun _ h => h.elim)
  repeat (first | (intro gA wA hA; have hc := (hc.loc hA).1) | refine ⟨_, hc.cell 0 rfl _ rfl, ?_⟩ | (refine ⟨_, ?_, hc.cells 0 rfl, ?_⟩; (· rfl)) | (refine ⟨hc.may 0 rfl _ _ (nle rfl) rfl, ?_⟩; intro wA hA; have hc := (hc.set 0 rfl hA).1) | refine ⟨_, hc.cell 1 rfl _ rfl, ?_⟩ | (refine ⟨_, ?_, hc.cells 1 rfl, ?_⟩; (· rfl)) | (refine ⟨hc.may 1 rfl _ _ (nle rfl) rfl, ?_⟩; intro wA hA; have hc := (hc.set 1 rfl hA).1) | refine ⟨_, hc.cell 2 rfl _ rfl, ?_⟩ | (refine ⟨_, ?_, hc.cells 2 rfl, ?_⟩; (· rfl)) | (refine ⟨hc.may 2 rfl _ _ (nle rfl) rfl, ?_⟩; intro wA hA; have hc := (hc.set 2 rfl hA).1) | refine ⟨_, hc.cell 3 rfl _ rfl, ?_⟩ | (refine ⟨_, ?_, hc.cells 3 rfl, ?_⟩; (· rfl)) | (refine ⟨hc.may 3 rfl _ _ (nle rfl) rfl, ?_⟩; intro wA hA; have hc := (hc.set 3 rfl hA).1) | refine ⟨_, hc.cell 4 rfl _ rfl, ?_⟩ | (refine ⟨_, ?_, hc.cells 4 rfl, ?_⟩; (· rfl)) | (refine ⟨hc.may 4 rfl _ _ (nle rfl) rfl, ?_⟩; intro wA hA; have hc := (hc.set 4 rfl hA).1))
  exact ⟨rfl, hc.below⟩
theorem str_any (s : ByteArray) (w : World) : Calls Tryz.prog 85 #[.string s] w (RetB (.agg #[.int .i64 2, .int .i64 0, .string s, .slice none 0 0]) w) := by
  refine calls_vc lay_ok Tryz.func85 rfl (by kernel_rfl) (by kernel_rfl) ?_
  have hc := Ctx.start w no (fun _ h => h.elim)
  repeat (first | (intro gA wA hA; have hc := (hc.loc hA).1) | refine ⟨_, hc.cell 0 rfl _ rfl, ?_⟩ | (refine ⟨_, ?_, hc.cells 0 rfl, ?_⟩; (· rfl)) | (refine ⟨hc.may 0 rfl _ _ (nle rfl) rfl, ?_⟩; intro wA hA; have hc := (hc.set 0 rfl hA).1) | refine ⟨_, hc.cell 1 rfl _ rfl, ?_⟩ | (refine ⟨_, ?_, hc.cells 1 rfl, ?_⟩; (· rfl)) | (refine ⟨hc.may 1 rfl _ _ (nle rfl) rfl, ?_⟩; intro wA hA; have hc := (hc.set 1 rfl hA).1) | refine ⟨_, hc.cell 2 rfl _ rfl, ?_⟩ | (refine ⟨_, ?_, hc.cells 2 rfl, ?_⟩; (· rfl)) | (refine ⟨hc.may 2 rfl _ _ (nle rfl) rfl, ?_⟩; intro wA hA; have hc := (hc.set 2 rfl hA).1) | refine ⟨_, hc.cell 3 rfl _ rfl, ?_⟩ | (refine ⟨_, ?_, hc.cells 3 rfl, ?_⟩; (· rfl)) | (refine ⟨hc.may 3 rfl _ _ (nle rfl) rfl, ?_⟩; intro wA hA; have hc := (hc.set 3 rfl hA).1) | refine ⟨_, hc.cell 4 rfl _ rfl, ?_⟩ | (refine ⟨_, ?_, hc.cells 4 rfl, ?_⟩; (· rfl)) | (refine ⟨hc.may 4 rfl _ _ (nle rfl) rfl, ?_⟩; intro wA hA; have hc := (hc.set 4 rfl hA).1))
  exact ⟨rfl, hc.below⟩
theorem RepL.cons {S : Nat → Prop} {w : World} {v : V} {r : List V} {c xs : List Value} (h : RepC S w v c) (h2 : RepL S w r xs) : RepL S w (v :: r) (c ++ xs) := by
  rw [RepL]
  exact ⟨c, xs, h, h2, rfl⟩
theorem RepL.nil (S : Nat → Prop) (w : World) : RepL S w [] [] := by rw [RepL]
theorem RepC.leaf (S : Nat → Prop) (w : World) (k n : Int) (s : ByteArray) : RepC S w (.mk k n s []) [.int .i64 k, .int .i64 n, .string s, .slice none 0 0] := by
  rw [RepC]
  exact ⟨none, 0, [], rfl, by rw [RepL], Nat.le_refl _, Nat.zero_le _, fun h => absurd rfl h⟩
def leaf (k n : Int) (s : ByteArray) : List Value := [.int .i64 k, .int .i64 n, .string s, .slice none 0 0]
def deedC (d : D) : List Value := leaf 1 d.kind ⟨#[]⟩ ++ (leaf 2 0 d.key ++ (leaf 2 0 d.body ++ (leaf 1 d.ver ⟨#[]⟩ ++ (leaf 1 d.cond ⟨#[]⟩ ++ (leaf 2 0 d.tag ++ (leaf 1 d.req ⟨#[]⟩ ++ (leaf 1 d.low ⟨#[]⟩ ++ [])))))))
theorem deedC_rep (S : Nat → Prop) (w : World) (d : D) : RepL S w (vL (vDeed d)) (deedC d) :=
  .cons (.leaf ..) (.cons (.leaf ..) (.cons (.leaf ..) (.cons (.leaf ..) (.cons (.leaf ..) (.cons (.leaf ..) (.cons (.leaf ..) (.cons (.leaf ..) (.nil _ _))))))))
def RetV (v : V) (w : World) (e : Ending) (w' : World) : Prop :=
  ∃ k n s A len cap, e = .returned (.agg #[.int .i64 k, .int .i64 n, .string s, .slice A len cap]) ∧ Below w.heap.size w w' ∧ RepC (ext no w w') w' v [.int .i64 k, .int .i64 n, .string s, .slice A len cap]
set_option maxHeartbeats 1000000 in
theorem value_any (d : D) (h : d.Ok) (w : World) : Calls Tryz.prog 46 #[.agg #[.int .i64 d.kind, .string d.key, .string d.body, .int .i64 d.ver, .int .i64 d.cond, .string d.tag, .int .i64 d.req, .int .i64 d.low]] w (RetV (valD' d) w) := by
  refine calls_vc lay_ok Tryz.func46 rfl (by kernel_rfl) (by kernel_rfl) ?_
  intro g1 w1 h1
  have hc := ((Ctx.start w no (fun _ h => h.elim)).loc h1).1
  intro g2 w2 h2
  have hc := (hc.loc h2).1
  refine ⟨_, ?_, hc.cells 1 rfl, ?_⟩
  · rfl
  refine call_b (may_any d h _) ?_
  intro w3 h3
  have hc := (hc.quiet h3).1
  by_cases hm : mayD d = true
  rotate_left
  · have hm : mayD d = false := by simpa using hm
    refine split_t (by rw [hm]; rfl) ?_
    repeat (first | (intro gA wA hA; have hc := (hc.loc hA).1) | refine ⟨_, hc.cell 0 rfl _ rfl, ?_⟩ | (refine ⟨_, ?_, hc.cells 0 rfl, ?_⟩; (· rfl)) | (refine ⟨hc.may 0 rfl _ _ (nle rfl) rfl, ?_⟩; intro wA hA; have hc := (hc.set 0 rfl hA).1) | refine ⟨_, hc.cell 1 rfl _ rfl, ?_⟩ | (refine ⟨_, ?_, hc.cells 1 rfl, ?_⟩; (· rfl)) | (refine ⟨hc.may 1 rfl _ _ (nle rfl) rfl, ?_⟩; intro wA hA; have hc := (hc.set 1 rfl hA).1) | refine ⟨_, hc.cell 2 rfl _ rfl, ?_⟩ | (refine ⟨_, ?_, hc.cells 2 rfl, ?_⟩; (· rfl)) | (refine ⟨hc.may 2 rfl _ _ (nle rfl) rfl, ?_⟩; intro wA hA; have hc := (hc.set 2 rfl hA).1) | refine ⟨_, hc.cell 3 rfl _ rfl, ?_⟩ | (refine ⟨_, ?_, hc.cells 3 rfl, ?_⟩; (· rfl)) | (refine ⟨hc.may 3 rfl _ _ (nle rfl) rfl, ?_⟩; intro wA hA; have hc := (hc.set 3 rfl hA).1) | refine ⟨_, hc.cell 4 rfl _ rfl, ?_⟩ | (refine ⟨_, ?_, hc.cells 4 rfl, ?_⟩; (· rfl)) | (refine ⟨hc.may 4 rfl _ _ (nle rfl) rfl, ?_⟩; intro wA hA; have hc := (hc.set 4 rfl hA).1))
    rw [valD', if_neg (by rw [hm]; exact Bool.false_ne_true)]
    exact ⟨0, 0, ⟨#[]⟩, none, 0, 0, rfl, hc.below, RepC.V0 _ _⟩
  refine split_f (by rw [hm]; rfl) ?_
  have b1 := hc.blk 1 rfl
  have hlt : ∀ b, (fun b => b = g1) b → b < w3.heap.size := fun b e => by subst e; exact b1.lt
  refine drawn lay_ok (by kernel_rfl) (.q 0 (.q 1 (.q 3 (.q 4 (.q 6 (.q 7 (.q 9 (.q 10 (.q 12 (.q 13 (.q 15 (.q 16 (.q 18 (.q 19 (.q 21 (.q 22 (.n 2 (.n 5 (.n 8 (.n 11 (.n 14 (.n 17 (.n 20 (.n 23 (.n 24 (.q 25 .fin) .stop) .stop) .stop) .stop) .stop) .stop) .stop) .stop) .stop))))))))))))))))) (Keeps (fun b => b = g1) w3) (by kernel_rfl) (Keeps.start _ _) ?_
  have hk := Keeps.start (fun b => b = g1) w3
  have hc := hc.drew
  iterate 8 refine ⟨_, fun x hx => hx.cell b1 rfl rfl, ?_⟩
  refine ⟨?_, trivial⟩
  refine call_b (num_any d.kind _) ?_
  intro wq hq
  have hc := (hc.quiet hq).1
  have hk := hk.below hlt hq
  refine ⟨hk, ?_⟩
  refine ⟨?_, trivial⟩
  refine call_b (str_any d.key _) ?_
  intro wq hq
  have hc := (hc.quiet hq).1
  have hk := hk.below hlt hq
  refine ⟨hk, ?_⟩
  refine ⟨?_, trivial⟩
  refine call_b (str_any d.body _) ?_
  intro wq hq
  have hc := (hc.quiet hq).1
  have hk := hk.below hlt hq
  refine ⟨hk, ?_⟩
  refine ⟨?_, trivial⟩
  refine call_b (num_any d.ver _) ?_
  intro wq hq
  have hc := (hc.quiet hq).1
  have hk := hk.below hlt hq
  refine ⟨hk, ?_⟩
  refine ⟨?_, trivial⟩
  refine call_b (num_any d.cond _) ?_
  intro wq hq
  have hc := (hc.quiet hq).1
  have hk := hk.below hlt hq
  refine ⟨hk, ?_⟩
  refine ⟨?_, trivial⟩
  refine call_b (str_any d.tag _) ?_
  intro wq hq
  have hc := (hc.quiet hq).1
  have hk := hk.below hlt hq
  refine ⟨hk, ?_⟩
  refine ⟨?_, trivial⟩
  refine call_b (num_any d.req _) ?_
  intro wq hq
  have hc := (hc.quiet hq).1
  have hk := hk.below hlt hq
  refine ⟨hk, ?_⟩
  refine ⟨?_, trivial⟩
  refine call_b (num_any d.low _) ?_
  intro wq hq
  have hc := (hc.quiet hq).1
  have hk := hk.below hlt hq
  refine ⟨hk, ?_⟩
  refine ⟨?_, trivial⟩
  intro g3 w4 h4
  refine ⟨hk.below hlt h4.below, ?_⟩
  have hC := hc.call h4.below
  have hc := hC.1
  have hrow : Row (ext no _ w4) w4 (some ⟨g3, 0, none⟩) 8 8 (deedC d) := (h4.row 8 (by decide)).sub fun b e => by
    subst e
    exact .inr ⟨Nat.le_of_eq h4.1.symm, h4.blk.lt⟩
  refine ⟨hc.may 0 rfl 0 _ (Nat.le_refl 4) rfl, ?_⟩
  intro w5 h5
  have hC := hc.set 0 rfl h5
  have hc := hC.1
  refine ⟨_, ?_, hc.cells 0 rfl, ?_⟩
  · rfl
  rw [valD', if_pos hm]
  refine ⟨3, 0, ⟨#[]⟩, some ⟨g3, 0, none⟩, 8, 8, rfl, hc.below, ?_⟩
  rw [vDeed, vRow, RepC]
  exact ⟨some ⟨g3, 0, none⟩, 8, deedC d, rfl, deedC_rep _ _ d, (hrow.fut hC.2).fut hc.out⟩
set_option maxRecDepth 100000
def dC (d : D) : List Value := [.int .i64 d.kind, .string d.key, .string d.body, .int .i64 d.ver, .int .i64 d.cond, .string d.tag, .int .i64 d.req, .int .i64 d.low]
set_option maxHeartbeats 1000000 in
theorem of_any (v : V) (k n : Int) (s : ByteArray) (A : Option Addr) (len cap : Nat) (S : Nat → Prop) (w : World) (hr : RepC S w v [.int .i64 k, .int .i64 n, .string s, .slice A len cap]) (hk : (deedV v).Ok) :
    Calls Tryz.prog 76 #[.agg #[.int .i64 k, .int .i64 n, .string s, .slice A len cap]] w (RetB (.tuple #[.agg (dC (ofD v).1).toArray, .bool (ofD v).2]) w) := by
  have hr0 := hr
  obtain ⟨k0, n0, s0, l⟩ := v
  rw [RepC] at hr
  obtain ⟨A', cap', xs, e, hL, hR⟩ := hr
  cases e
  refine calls_vc lay_ok Tryz.func76 rfl (by kernel_rfl) (by kernel_rfl) ?_
  intro g1 w1 h1
  have hc := ((Ctx.start w no (fun _ h => h.elim)).loc h1).1
  intro g2 w2 h2
  have hc := (hc.loc h2).1
  refine ⟨_, hc.cell 1 rfl _ rfl, ?_⟩
  have bad : (vK (.mk k n s l) ≠ 3 ∨ (vL (.mk k n s l)).length ≠ 8) → ofD (.mk k n s l) = (D0, false) := fun h => by rw [ofD, if_pos h]
  by_cases k3 : k = 3
  rotate_left
  · refine split_t (by show (k != 3) = true; simpa using k3) ?_
    repeat (first | (intro gA wA hA; have hc := (hc.loc hA).1) | refine ⟨_, hc.cell 0 rfl _ rfl, ?_⟩ | (refine ⟨_, ?_, hc.cells 0 rfl, ?_⟩; (· rfl)) | (refine ⟨hc.may 0 rfl _ _ (nle rfl) rfl, ?_⟩; intro wA hA; have hc := (hc.set 0 rfl hA).1) | refine ⟨_, hc.cell 1 rfl _ rfl, ?_⟩ | (refine ⟨_, ?_, hc.cells 1 rfl, ?_⟩; (· rfl)) | (refine ⟨hc.may 1 rfl _ _ (nle rfl) rfl, ?_⟩; intro wA hA; have hc := (hc.set 1 rfl hA).1) | refine ⟨_, hc.cell 2 rfl _ rfl, ?_⟩ | (refine ⟨_, ?_, hc.cells 2 rfl, ?_⟩; (· rfl)) | (refine ⟨hc.may 2 rfl _ _ (nle rfl) rfl, ?_⟩; intro wA hA; have hc := (hc.set 2 rfl hA).1) | refine ⟨_, hc.cell 3 rfl _ rfl, ?_⟩ | (refine ⟨_, ?_, hc.cells 3 rfl, ?_⟩; (· rfl)) | (refine ⟨hc.may 3 rfl _ _ (nle rfl) rfl, ?_⟩; intro wA hA; have hc := (hc.set 3 rfl hA).1) | refine ⟨_, hc.cell 4 rfl _ rfl, ?_⟩ | (refine ⟨_, ?_, hc.cells 4 rfl, ?_⟩; (· rfl)) | (refine ⟨hc.may 4 rfl _ _ (nle rfl) rfl, ?_⟩; intro wA hA; have hc := (hc.set 4 rfl hA).1))
    rw [bad (.inl k3)]
    exact ⟨rfl, hc.below⟩
  refine split_f (by show (k != 3) = false; simpa using k3) ?_
  refine ⟨_, hc.cell 1 rfl _ rfl, ?_⟩
  by_cases h8 : l.length = 8
  rotate_left
  · refine split_t (by show ((l.length : Int) != 8) = true; rw [bne_iff_ne]; omega) ?_
    repeat (first | (intro gA wA hA; have hc := (hc.loc hA).1) | refine ⟨_, hc.cell 0 rfl _ rfl, ?_⟩ | (refine ⟨_, ?_, hc.cells 0 rfl, ?_⟩; (· rfl)) | (refine ⟨hc.may 0 rfl _ _ (nle rfl) rfl, ?_⟩; intro wA hA; have hc := (hc.set 0 rfl hA).1) | refine ⟨_, hc.cell 1 rfl _ rfl, ?_⟩ | (refine ⟨_, ?_, hc.cells 1 rfl, ?_⟩; (· rfl)) | (refine ⟨hc.may 1 rfl _ _ (nle rfl) rfl, ?_⟩; intro wA hA; have hc := (hc.set 1 rfl hA).1) | refine ⟨_, hc.cell 2 rfl _ rfl, ?_⟩ | (refine ⟨_, ?_, hc.cells 2 rfl, ?_⟩; (· rfl)) | (refine ⟨hc.may 2 rfl _ _ (nle rfl) rfl, ?_⟩; intro wA hA; have hc := (hc.set 2 rfl hA).1) | refine ⟨_, hc.cell 3 rfl _ rfl, ?_⟩ | (refine ⟨_, ?_, hc.cells 3 rfl, ?_⟩; (· rfl)) | (refine ⟨hc.may 3 rfl _ _ (nle rfl) rfl, ?_⟩; intro wA hA; have hc := (hc.set 3 rfl hA).1) | refine ⟨_, hc.cell 4 rfl _ rfl, ?_⟩ | (refine ⟨_, ?_, hc.cells 4 rfl, ?_⟩; (· rfl)) | (refine ⟨hc.may 4 rfl _ _ (nle rfl) rfl, ?_⟩; intro wA hA; have hc := (hc.set 4 rfl hA).1))
    rw [bad (.inr h8)]
    exact ⟨rfl, hc.below⟩
  have eof : ofD (.mk k n s l) = if mayD (deedV (.mk k n s l)) = false ∨ eqV (valD' (deedV (.mk k n s l))) (.mk k n s l) = false then (D0, false) else (deedV (.mk k n s l), true) := by
    rw [ofD, if_neg]
    rintro (h | h)
    · exact h k3
    · exact h h8
  clear bad
  match l, h8 with
  | [.mk k0 n0 s0 l0, .mk k1 n1 s1 l1, .mk k2 n2 s2 l2, .mk k3' n3 s3 l3, .mk k4 n4 s4 l4, .mk k5 n5 s5 l5, .mk k6 n6 s6 l6, .mk k7 n7 s7 l7], _ =>
  simp only [RepL, RepC] at hL
  obtain ⟨c0, y0, ⟨A0, cap0, x0, rfl, _⟩, ⟨c1, y1, ⟨A1, cap1, x1, rfl, _⟩, ⟨c2, y2, ⟨A2, cap2, x2, rfl, _⟩, ⟨c3, y3, ⟨A3, cap3, x3, rfl, _⟩, ⟨c4, y4, ⟨A4, cap4, x4, rfl, _⟩, ⟨c5, y5, ⟨A5, cap5, x5, rfl, _⟩, ⟨c6, y6, ⟨A6, cap6, x6, rfl, _⟩, ⟨c7, y7, ⟨A7, cap7, x7, rfl, _⟩, rfl, rfl⟩, rfl⟩, rfl⟩, rfl⟩, rfl⟩, rfl⟩, rfl⟩, rfl⟩ := hL
  obtain ⟨ad, rfl, hS, hcell⟩ := (hR.below hc.below).2.2 (by simp)
  obtain ⟨bk, off, sub⟩ := ad
  refine ⟨_, hc.cell 1 rfl _ rfl, ?_⟩
  have hbk : bk < w2.heap.size := World.block_lt_of_cell? w2 _ (hcell 0 _ rfl)
  have hlt : ∀ b, (fun b => b = bk) b → b < w2.heap.size := fun b e => by subst e; exact hbk
  refine drawn lay_ok (by kernel_rfl) (.q 0 (.q 1 (.q 2 (.q 3 (.q 4 (.q 5 (.q 6 (.q 7 (.q 8 (.q 9 (.q 10 (.q 11 (.q 12 (.q 13 (.q 14 (.q 15 (.q 16 (.q 17 (.q 18 (.q 19 (.q 20 (.q 21 (.q 22 (.q 23 (.q 24 (.q 25 (.q 26 (.q 27 (.q 28 (.q 29 (.q 30 (.q 31 (.q 32 (.n 33 (.z 34) .stop)))))))))))))))))))))))))))))))))) (Keeps (fun b => b = bk) w2) (by kernel_rfl) (Keeps.start _ _) ?_
  have hk1 := Keeps.start (fun b => b = bk) w2
  have hc := hc.drew
  refine ⟨⟨by decide, (show (0 : Int) < 8 by decide)⟩, ?_⟩
  refine ⟨_, fun x hx => hx.at (hcell 1 _ rfl) rfl, ?_⟩
  refine ⟨⟨by decide, (show (1 : Int) < 8 by decide)⟩, ?_⟩
  refine ⟨_, fun x hx => hx.at (hcell 6 _ rfl) rfl, ?_⟩
  refine ⟨⟨by decide, (show (2 : Int) < 8 by decide)⟩, ?_⟩
  refine ⟨_, fun x hx => hx.at (hcell 10 _ rfl) rfl, ?_⟩
  refine ⟨⟨by decide, (show (3 : Int) < 8 by decide)⟩, ?_⟩
  refine ⟨_, fun x hx => hx.at (hcell 13 _ rfl) rfl, ?_⟩
  refine ⟨⟨by decide, (show (4 : Int) < 8 by decide)⟩, ?_⟩
  refine ⟨_, fun x hx => hx.at (hcell 17 _ rfl) rfl, ?_⟩
  refine ⟨⟨by decide, (show (5 : Int) < 8 by decide)⟩, ?_⟩
  refine ⟨_, fun x hx => hx.at (hcell 22 _ rfl) rfl, ?_⟩
  refine ⟨⟨by decide, (show (6 : Int) < 8 by decide)⟩, ?_⟩
  refine ⟨_, fun x hx => hx.at (hcell 25 _ rfl) rfl, ?_⟩
  refine ⟨⟨by decide, (show (7 : Int) < 8 by decide)⟩, ?_⟩
  refine ⟨_, fun x hx => hx.at (hcell 29 _ rfl) rfl, ?_⟩
  refine ⟨?_, trivial⟩
  intro g5 w5 h5
  refine ⟨hk1.below hlt h5.below, ?_⟩
  have hc := (hc.loc h5).1
  refine ⟨hc.may 0 rfl 0 _ (Nat.le_refl 8) rfl, ?_⟩
  intro w6 h6
  have hc := (hc.set 0 rfl h6).1
  have b5 := hc.blk 0 rfl
  have b1 := hc.blk 2 rfl
  have hlt : ∀ b, (fun b => b = g5 ∨ b = g1) b → b < w6.heap.size := fun b e => by
    rcases e with e | e
    · subst e; exact b5.lt
    · subst e; exact b1.lt
  refine drawn lay_ok (by kernel_rfl) (.q 0 (.n 1 (.q 2 (.q 3 (.q 4 (.q 6 (.n 5 (.n 7 (.q 8 (.q 9 .fin)) .stop) .stop))))) .stop)) (Keeps (fun b => b = g5 ∨ b = g1) w6) (by kernel_rfl) (Keeps.start _ _) ?_
  have hk2 := Keeps.start (fun b => b = g5 ∨ b = g1) w6
  have hc := hc.drew
  refine ⟨_, ?_, fun x hx => hx.cells b5 (.inl rfl), ?_⟩
  · rfl
  refine ⟨?_, trivial⟩
  refine call_b (may_any (deedV (.mk k n s [.mk k0 n0 s0 l0, .mk k1 n1 s1 l1, .mk k2 n2 s2 l2, .mk k3' n3 s3 l3, .mk k4 n4 s4 l4, .mk k5 n5 s5 l5, .mk k6 n6 s6 l6, .mk k7 n7 s7 l7])) hk _) ?_
  intro w7 h7
  have hc := (hc.quiet h7).1
  have hk2 := hk2.below hlt h7
  refine ⟨hk2, ?_⟩
  rw [eof]
  generalize hv : V.mk k n s [.mk k0 n0 s0 l0, .mk k1 n1 s1 l1, .mk k2 n2 s2 l2, .mk k3' n3 s3 l3, .mk k4 n4 s4 l4, .mk k5 n5 s5 l5, .mk k6 n6 s6 l6, .mk k7 n7 s7 l7] = v at hr0 hk ⊢
  by_cases hm : mayD (deedV v) = true
  rotate_left
  · have hm : mayD (deedV v) = false := by simpa using hm
    refine split_t (by rw [hm]; rfl) ?_
    refine ⟨?_, trivial⟩
    refine ⟨?_, trivial⟩
    repeat (first | (intro gA wA hA; have hc := (hc.loc hA).1) | refine ⟨_, hc.cell 0 rfl _ rfl, ?_⟩ | (refine ⟨_, ?_, hc.cells 0 rfl, ?_⟩; (· rfl)) | (refine ⟨hc.may 0 rfl _ _ (nle rfl) rfl, ?_⟩; intro wA hA; have hc := (hc.set 0 rfl hA).1) | refine ⟨_, hc.cell 1 rfl _ rfl, ?_⟩ | (refine ⟨_, ?_, hc.cells 1 rfl, ?_⟩; (· rfl)) | (refine ⟨hc.may 1 rfl _ _ (nle rfl) rfl, ?_⟩; intro wA hA; have hc := (hc.set 1 rfl hA).1) | refine ⟨_, hc.cell 2 rfl _ rfl, ?_⟩ | (refine ⟨_, ?_, hc.cells 2 rfl, ?_⟩; (· rfl)) | (refine ⟨hc.may 2 rfl _ _ (nle rfl) rfl, ?_⟩; intro wA hA; have hc := (hc.set 2 rfl hA).1) | refine ⟨_, hc.cell 3 rfl _ rfl, ?_⟩ | (refine ⟨_, ?_, hc.cells 3 rfl, ?_⟩; (· rfl)) | (refine ⟨hc.may 3 rfl _ _ (nle rfl) rfl, ?_⟩; intro wA hA; have hc := (hc.set 3 rfl hA).1) | refine ⟨_, hc.cell 4 rfl _ rfl, ?_⟩ | (refine ⟨_, ?_, hc.cells 4 rfl, ?_⟩; (· rfl)) | (refine ⟨hc.may 4 rfl _ _ (nle rfl) rfl, ?_⟩; intro wA hA; have hc := (hc.set 4 rfl hA).1))
    rw [if_pos (.inl hm)]
    exact ⟨rfl, hc.below⟩
  refine split_f (by rw [hm]; rfl) ?_
  refine ⟨_, ?_, fun x hx => hx.cells b5 (.inl rfl), ?_⟩
  · rfl
  refine ⟨_, ?_, fun x hx => hx.cells b1 (.inr rfl), ?_⟩
  · rfl
  refine ⟨?_, trivial⟩
  have hcall := value_any (deedV v) hk w7
  have earg : #[Value.agg #[.int .i64 (deedV v).kind, .string (deedV v).key, .string (deedV v).body, .int .i64 (deedV v).ver, .int .i64 (deedV v).cond, .string (deedV v).tag, .int .i64 (deedV v).req, .int .i64 (deedV v).low]] = #[Value.agg #[.int .i64 n0, .string s1, .string s2, .int .i64 n3, .int .i64 n4, .string s5, .int .i64 n6, .int .i64 n7]] := by
    subst hv
    rfl
  rw [earg] at hcall
  refine ⟨hcall.mono fun e w8 hq => ?_⟩
  obtain ⟨kk, nn, ss, AA, ll, cc, e1, h8', hrep⟩ := hq
  have hk2 := hk2.below hlt h8'
  refine ⟨_, e1, hk2, ?_⟩
  have hc := (hc.quiet h8').1
  refine ⟨?_, trivial⟩
  refine call_b (veq_any _ (valD' (deedV v)) (Nat.lt_succ_self _) v _ _ (fun b => ext no w7 w8 b ∨ S b) w8 (hrep.sub fun b h => .inl h) ((hr0.below hc.below).sub fun b h => .inr h)) ?_
  intro w9 h9
  have hc := (hc.quiet h9).1
  have hk2 := hk2.below hlt h9
  refine ⟨hk2, ?_⟩
  by_cases he : eqV (valD' (deedV v)) v = true
  · refine split_f (by rw [he]; rfl) ?_
    repeat (first | (intro gA wA hA; have hc := (hc.loc hA).1) | refine ⟨_, hc.cell 0 rfl _ rfl, ?_⟩ | (refine ⟨_, ?_, hc.cells 0 rfl, ?_⟩; (· rfl)) | (refine ⟨hc.may 0 rfl _ _ (nle rfl) rfl, ?_⟩; intro wA hA; have hc := (hc.set 0 rfl hA).1) | refine ⟨_, hc.cell 1 rfl _ rfl, ?_⟩ | (refine ⟨_, ?_, hc.cells 1 rfl, ?_⟩; (· rfl)) | (refine ⟨hc.may 1 rfl _ _ (nle rfl) rfl, ?_⟩; intro wA hA; have hc := (hc.set 1 rfl hA).1) | refine ⟨_, hc.cell 2 rfl _ rfl, ?_⟩ | (refine ⟨_, ?_, hc.cells 2 rfl, ?_⟩; (· rfl)) | (refine ⟨hc.may 2 rfl _ _ (nle rfl) rfl, ?_⟩; intro wA hA; have hc := (hc.set 2 rfl hA).1) | refine ⟨_, hc.cell 3 rfl _ rfl, ?_⟩ | (refine ⟨_, ?_, hc.cells 3 rfl, ?_⟩; (· rfl)) | (refine ⟨hc.may 3 rfl _ _ (nle rfl) rfl, ?_⟩; intro wA hA; have hc := (hc.set 3 rfl hA).1) | refine ⟨_, hc.cell 4 rfl _ rfl, ?_⟩ | (refine ⟨_, ?_, hc.cells 4 rfl, ?_⟩; (· rfl)) | (refine ⟨hc.may 4 rfl _ _ (nle rfl) rfl, ?_⟩; intro wA hA; have hc := (hc.set 4 rfl hA).1))
    rw [if_neg (by rw [hm, he]; simp)]
    refine ⟨?_, hc.below⟩
    subst hv
    rfl
  · have he : eqV (valD' (deedV v)) v = false := by simpa using he
    refine split_t (by rw [he]; rfl) ?_
    repeat (first | (intro gA wA hA; have hc := (hc.loc hA).1) | refine ⟨_, hc.cell 0 rfl _ rfl, ?_⟩ | (refine ⟨_, ?_, hc.cells 0 rfl, ?_⟩; (· rfl)) | (refine ⟨hc.may 0 rfl _ _ (nle rfl) rfl, ?_⟩; intro wA hA; have hc := (hc.set 0 rfl hA).1) | refine ⟨_, hc.cell 1 rfl _ rfl, ?_⟩ | (refine ⟨_, ?_, hc.cells 1 rfl, ?_⟩; (· rfl)) | (refine ⟨hc.may 1 rfl _ _ (nle rfl) rfl, ?_⟩; intro wA hA; have hc := (hc.set 1 rfl hA).1) | refine ⟨_, hc.cell 2 rfl _ rfl, ?_⟩ | (refine ⟨_, ?_, hc.cells 2 rfl, ?_⟩; (· rfl)) | (refine ⟨hc.may 2 rfl _ _ (nle rfl) rfl, ?_⟩; intro wA hA; have hc := (hc.set 2 rfl hA).1) | refine ⟨_, hc.cell 3 rfl _ rfl, ?_⟩ | (refine ⟨_, ?_, hc.cells 3 rfl, ?_⟩; (· rfl)) | (refine ⟨hc.may 3 rfl _ _ (nle rfl) rfl, ?_⟩; intro wA hA; have hc := (hc.set 3 rfl hA).1) | refine ⟨_, hc.cell 4 rfl _ rfl, ?_⟩ | (refine ⟨_, ?_, hc.cells 4 rfl, ?_⟩; (· rfl)) | (refine ⟨hc.may 4 rfl _ _ (nle rfl) rfl, ?_⟩; intro wA hA; have hc := (hc.set 4 rfl hA).1))
    rw [if_pos (.inr he)]
    exact ⟨rfl, hc.below⟩
theorem putD_any (d : D) (h : d.Ok) (w : World) (ht : Tab w) : Calls Tryz.prog 104 #[.agg #[.int .i64 d.kind, .string d.key, .string d.body, .int .i64 d.ver, .int .i64 d.cond, .string d.tag, .int .i64 d.req, .int .i64 d.low]] w (RetB (.string ⟨(putD d).toArray⟩) w) := by
  refine calls_vc lay_ok Tryz.func104 rfl (by kernel_rfl) (by kernel_rfl) ?_
  intro g1 w1 h1
  have hc := ((Ctx.start w no (fun _ h => h.elim)).loc h1).1
  refine ⟨_, ?_, hc.cells 0 rfl, ?_⟩
  · rfl
  refine ⟨(value_any d h _).mono fun e w2 hq => ?_⟩
  obtain ⟨k, n, s, A, len, cap, e1, h2, hrep⟩ := hq
  refine ⟨_, e1, ?_⟩
  have hc := (hc.quiet h2).1
  have hsz : okV (valD' d) ∧ (putV (valD' d)).length ≤ 1073741824 := by
    by_cases hm : mayD d = true
    · rw [valD', if_pos hm]
      have h1 := txt_vDeed d h hm
      have h3 := putV_len (vDeed d)
      have := dec_len7 (u := (txtV (vDeed d)).length) (by omega)
      exact ⟨okV_vDeed d h, by omega⟩
    · rw [valD', if_neg hm]
      refine ⟨?_, ?_⟩
      · rw [V0, okV, okL]; exact ⟨by unfold i64ok; omega, trivial⟩
      · have h3 := putV_len V0
        have e : (txtV V0).length = 0 := rfl
        have := dec_len7 (u := (txtV V0).length) (by rw [e]; decide)
        omega
  refine call_b (vput_any (valD' d) hsz.1 hsz.2 k n s A len cap _ _ hrep (ht.below hc.below)) ?_
  intro w3 h3
  have hc := (hc.quiet h3).1
  exact ⟨rfl, hc.below⟩
theorem small_strs {f : Nat} {x : V} (h : cnt f x ≤ 6000) : (vS x).size ≤ (putV x).length := by
  obtain ⟨k, n, s, l⟩ := x
  cases f with
  | zero => rw [cnt] at h; omega
  | succ f =>
    rw [cnt] at h
    show s.size ≤ _
    rw [putV_len]
    by_cases h1 : (k == 1 && mt s && ((l.length : Int) == 0)) || (k == 2 && n == 0 && ((l.length : Int) == 0))
    · simp only [Bool.or_eq_true, Bool.and_eq_true, beq_iff_eq] at h1
      rcases h1 with ⟨⟨h1, h2⟩, h3⟩ | ⟨⟨h1, h2⟩, h3⟩
      · rw [mt_empty h2]; exact Nat.zero_le _
      · subst h1
        have e : (txtV (.mk 2 n s l)).length = s.size := ba_len s
        rw [e]; omega
    · rw [if_neg h1] at h
      by_cases h2 : (k != 3 || !(n == 0) || !mt s) = true
      · rw [if_pos h2] at h; omega
      · simp only [Bool.or_eq_true, not_or, Bool.not_eq_true] at h2
        have h4 : mt s = true := by simpa using h2.2
        rw [mt_empty h4]; exact Nat.zero_le _
theorem deedV_ok (t : List UInt8) (ht : t.length ≤ 1073741824) : (deedV (allV t).1).Ok := by
  have key : ∀ i, i64ok (vN (atV (allV t).1 i)) ∧ strok (vS (atV (allV t).1 i)) := by
    intro i
    have zero : i64ok (vN V0) ∧ strok (vS V0) := ⟨by unfold i64ok; exact ⟨by decide, by decide⟩, by unfold strok; exact Nat.zero_le _⟩
    by_cases he : (allV t).2 = 0
    · have ha : allV t = ((allV t).1, 0) := by rw [← he]
      obtain ⟨k1, k2, k3⟩ := allV_get ha
      generalize (allV t).1 = v at *
      obtain ⟨k, n, s, l⟩ := v
      rw [okV] at k3
      unfold atV
      show i64ok (vN (l.getD i V0)) ∧ strok (vS (l.getD i V0))
      rw [List.getD_eq_getElem?_getD]
      cases hg : l[i]? with
      | none => exact zero
      | some x =>
        have hm : x ∈ l := List.mem_of_getElem? hg
        have hx := okL_mem k3.2 hm
        simp only [Option.getD_some]
        refine ⟨?_, ?_⟩
        · obtain ⟨a, b, c, d⟩ := x
          rw [okV] at hx; exact hx.1
        · have hc : cnt 6 (.mk k n s l) ≤ 6000 := by simpa [mayV] using k2
          rw [cnt] at hc
          have hk : ¬ ((k == 1 && mt s && ((l.length : Int) == 0)) || (k == 2 && n == 0 && ((l.length : Int) == 0))) = true := by
            have : 0 < l.length := List.length_pos_of_mem hm
            simp only [Bool.or_eq_true, Bool.and_eq_true, beq_iff_eq]
            omega
          rw [if_neg hk] at hc
          by_cases h2 : (k != 3 || !(n == 0) || !mt s) = true
          · rw [if_pos h2] at hc; omega
          rw [if_neg h2] at hc
          have h3 := (cntL_le (cnt 5) (fun v => (cnt_range 5 v).1) l 1 hc).2 x hm
          have h4 := small_strs (f := 5) (x := x) (by omega)
          have h5 := putV_mem_le hm
          have e3 : k = 3 := by
            simp only [Bool.or_eq_true, not_or, Bool.not_eq_true] at h2
            simpa using h2.1.1
          have h6 : (putL l).length ≤ t.length := by
            rw [← k1, putV_len]
            have : txtV (.mk k n s l) = putL l := by subst e3; simp [txtV]
            rw [this]; omega
          unfold strok; omega
    · have e : (allV t).1 = V0 := by
        unfold allV at he ⊢
        simp only at he ⊢
        split at he
        · rename_i h; rw [if_pos h]
        · exact absurd rfl he
      rw [e]
      have : atV V0 i = V0 := by unfold atV; rfl
      rw [this]; exact zero
  exact ⟨(key 0).1, (key 1).2, (key 2).2, (key 3).1, (key 4).1, (key 5).2, (key 6).1, (key 7).1⟩
theorem getD_any (t : List UInt8) (ht : t.length ≤ 1073741824) (w : World) (hw : Env w) : Calls Tryz.prog 105 #[.string ⟨t.toArray⟩] w (RetB (.tuple #[.agg (dC (getD' t).1).toArray, .int .i64 (getD' t).2]) w) := by
  refine calls_vc lay_ok Tryz.func105 rfl (by kernel_rfl) (by kernel_rfl) ?_
  intro g2 w1 h1
  have hc := ((Ctx.start w no (fun _ h => h.elim)).loc h1).1
  refine ⟨(All_any t _ ht (hw.below hc.below)).mono fun e w2 hq => ?_⟩
  obtain ⟨k, n, s, A, len, cap, e1, h2, hrep⟩ := hq
  refine ⟨_, e1, ?_⟩
  have hC := hc.call h2
  have hc := hC.1
  have hok := deedV_ok t ht
  have eg : getD' t = if (allV t).2 ≠ 0 ∨ (ofD (allV t).1).2 = false then (D0, 1) else ((ofD (allV t).1).1, 0) := by rw [getD']
  rw [eg]
  clear eg
  generalize allV t = q at *
  obtain ⟨v, er⟩ := q
  simp only at hok hrep ⊢
  intro g4 w3 h3
  have hC := hc.loc h3
  have hc := hC.1
  have hrep := hrep.fut hC.2
  refine ⟨hc.may 0 rfl 0 _ (Nat.le_refl 4) rfl, ?_⟩
  intro w4 h4
  have hC := hc.set 0 rfl h4
  have hc := hC.1
  have hrep := hrep.fut hC.2
  refine ⟨_, ?_, hc.cells 0 rfl, ?_⟩
  · rfl
  refine call_b (of_any v k n s A len cap _ _ hrep hok) ?_
  intro w5 h5
  have hc := (hc.quiet h5).1
  generalize ofD v = q at *
  obtain ⟨d, ok⟩ := q
  simp only
  intro g6 w6 h6
  have hc := (hc.loc h6).1
  refine ⟨hc.may 0 rfl 0 _ (Nat.le_refl 8) rfl, ?_⟩
  intro w7 h7
  have hc := (hc.set 0 rfl h7).1
  by_cases he : er = 0
  · refine split_f (by show (er != 0) = false; simpa using he) ?_
    cases ok
    · repeat (first | (intro gA wA hA; have hc := (hc.loc hA).1) | refine ⟨_, hc.cell 0 rfl _ rfl, ?_⟩ | (refine ⟨_, ?_, hc.cells 0 rfl, ?_⟩; (· rfl)) | (refine ⟨hc.may 0 rfl _ _ (nle rfl) rfl, ?_⟩; intro wA hA; have hc := (hc.set 0 rfl hA).1) | refine ⟨_, hc.cell 1 rfl _ rfl, ?_⟩ | (refine ⟨_, ?_, hc.cells 1 rfl, ?_⟩; (· rfl)) | (refine ⟨hc.may 1 rfl _ _ (nle rfl) rfl, ?_⟩; intro wA hA; have hc := (hc.set 1 rfl hA).1) | refine ⟨_, hc.cell 2 rfl _ rfl, ?_⟩ | (refine ⟨_, ?_, hc.cells 2 rfl, ?_⟩; (· rfl)) | (refine ⟨hc.may 2 rfl _ _ (nle rfl) rfl, ?_⟩; intro wA hA; have hc := (hc.set 2 rfl hA).1) | refine ⟨_, hc.cell 3 rfl _ rfl, ?_⟩ | (refine ⟨_, ?_, hc.cells 3 rfl, ?_⟩; (· rfl)) | (refine ⟨hc.may 3 rfl _ _ (nle rfl) rfl, ?_⟩; intro wA hA; have hc := (hc.set 3 rfl hA).1) | refine ⟨_, hc.cell 4 rfl _ rfl, ?_⟩ | (refine ⟨_, ?_, hc.cells 4 rfl, ?_⟩; (· rfl)) | (refine ⟨hc.may 4 rfl _ _ (nle rfl) rfl, ?_⟩; intro wA hA; have hc := (hc.set 4 rfl hA).1))
      rw [if_pos (.inr rfl)]
      exact ⟨rfl, hc.below⟩
    · repeat (first | (intro gA wA hA; have hc := (hc.loc hA).1) | refine ⟨_, hc.cell 0 rfl _ rfl, ?_⟩ | (refine ⟨_, ?_, hc.cells 0 rfl, ?_⟩; (· rfl)) | (refine ⟨hc.may 0 rfl _ _ (nle rfl) rfl, ?_⟩; intro wA hA; have hc := (hc.set 0 rfl hA).1) | refine ⟨_, hc.cell 1 rfl _ rfl, ?_⟩ | (refine ⟨_, ?_, hc.cells 1 rfl, ?_⟩; (· rfl)) | (refine ⟨hc.may 1 rfl _ _ (nle rfl) rfl, ?_⟩; intro wA hA; have hc := (hc.set 1 rfl hA).1) | refine ⟨_, hc.cell 2 rfl _ rfl, ?_⟩ | (refine ⟨_, ?_, hc.cells 2 rfl, ?_⟩; (· rfl)) | (refine ⟨hc.may 2 rfl _ _ (nle rfl) rfl, ?_⟩; intro wA hA; have hc := (hc.set 2 rfl hA).1) | refine ⟨_, hc.cell 3 rfl _ rfl, ?_⟩ | (refine ⟨_, ?_, hc.cells 3 rfl, ?_⟩; (· rfl)) | (refine ⟨hc.may 3 rfl _ _ (nle rfl) rfl, ?_⟩; intro wA hA; have hc := (hc.set 3 rfl hA).1) | refine ⟨_, hc.cell 4 rfl _ rfl, ?_⟩ | (refine ⟨_, ?_, hc.cells 4 rfl, ?_⟩; (· rfl)) | (refine ⟨hc.may 4 rfl _ _ (nle rfl) rfl, ?_⟩; intro wA hA; have hc := (hc.set 4 rfl hA).1))
      rw [if_neg (by simp [he])]
      exact ⟨rfl, hc.below⟩
  · refine split_t (by show (er != 0) = true; simpa using he) ?_
    repeat (first | (intro gA wA hA; have hc := (hc.loc hA).1) | refine ⟨_, hc.cell 0 rfl _ rfl, ?_⟩ | (refine ⟨_, ?_, hc.cells 0 rfl, ?_⟩; (· rfl)) | (refine ⟨hc.may 0 rfl _ _ (nle rfl) rfl, ?_⟩; intro wA hA; have hc := (hc.set 0 rfl hA).1) | refine ⟨_, hc.cell 1 rfl _ rfl, ?_⟩ | (refine ⟨_, ?_, hc.cells 1 rfl, ?_⟩; (· rfl)) | (refine ⟨hc.may 1 rfl _ _ (nle rfl) rfl, ?_⟩; intro wA hA; have hc := (hc.set 1 rfl hA).1) | refine ⟨_, hc.cell 2 rfl _ rfl, ?_⟩ | (refine ⟨_, ?_, hc.cells 2 rfl, ?_⟩; (· rfl)) | (refine ⟨hc.may 2 rfl _ _ (nle rfl) rfl, ?_⟩; intro wA hA; have hc := (hc.set 2 rfl hA).1) | refine ⟨_, hc.cell 3 rfl _ rfl, ?_⟩ | (refine ⟨_, ?_, hc.cells 3 rfl, ?_⟩; (· rfl)) | (refine ⟨hc.may 3 rfl _ _ (nle rfl) rfl, ?_⟩; intro wA hA; have hc := (hc.set 3 rfl hA).1) | refine ⟨_, hc.cell 4 rfl _ rfl, ?_⟩ | (refine ⟨_, ?_, hc.cells 4 rfl, ?_⟩; (· rfl)) | (refine ⟨hc.may 4 rfl _ _ (nle rfl) rfl, ?_⟩; intro wA hA; have hc := (hc.set 4 rfl hA).1))
    rw [if_pos (.inl he)]
    exact ⟨rfl, hc.below⟩
set_option maxRecDepth 100000
def okM (lows : List Int) (seq : Int) (m : Mem) : Bool := !(homeI m.req == 0) && decide (lowAt lows (homeI m.req) ≤ m.req) && decide (0 ≤ m.res.err) && decide (m.res.err ≤ 13) && decide (0 ≤ m.res.ver) && decide (m.res.ver ≤ seq)
theorem memB_iff (lows : List Int) (seq : Int) : ∀ (l : List Mem) (p : Option Int), memB lows seq p l = true ↔ (∀ m ∈ l, okM lows seq m = true) ∧ l.Pairwise (fun a b => a.req < b.req) ∧ ∀ q, p = some q → ∀ m ∈ l, q < m.req
  | [], p => by simp [memB]
  | m :: r, p => by
    have e : memB lows seq p (m :: r) = (okM lows seq m && (match p with | none => true | some q => decide (q < m.req)) && memB lows seq (some m.req) r) := by
      have e0 : memB lows seq p (m :: r) = (!(homeI m.req == 0) && decide (lowAt lows (homeI m.req) ≤ m.req) && (match p with | none => true | some q => decide (q < m.req)) &&
          decide (0 ≤ m.res.err) && decide (m.res.err ≤ 13) && decide (0 ≤ m.res.ver) && decide (m.res.ver ≤ seq) && memB lows seq (some m.req) r) := by
        cases p <;> simp only [memB]
      rw [e0, okM, Bool.eq_iff_iff]
      simp only [Bool.and_eq_true]
      constructor
      · rintro ⟨⟨⟨⟨⟨⟨⟨h1, h2⟩, h3⟩, h4⟩, h5⟩, h6⟩, h7⟩, h8⟩; exact ⟨⟨⟨⟨⟨⟨⟨h1, h2⟩, h4⟩, h5⟩, h6⟩, h7⟩, h3⟩, h8⟩
      · rintro ⟨⟨⟨⟨⟨⟨⟨h1, h2⟩, h4⟩, h5⟩, h6⟩, h7⟩, h3⟩, h8⟩; exact ⟨⟨⟨⟨⟨⟨⟨h1, h2⟩, h3⟩, h4⟩, h5⟩, h6⟩, h7⟩, h8⟩
    rw [e, Bool.and_eq_true, Bool.and_eq_true, memB_iff lows seq r]
    simp only [List.mem_cons, forall_eq_or_imp, List.pairwise_cons]
    constructor
    · rintro ⟨⟨h1, h2⟩, h3, h4, h5⟩
      refine ⟨⟨h1, h3⟩, ⟨fun m' hm' => h5 _ rfl m' hm', h4⟩, fun q hq => ?_⟩
      subst hq
      simp only [decide_eq_true_eq] at h2
      exact ⟨h2, fun m' hm' => Int.lt_trans h2 (h5 _ rfl m' hm')⟩
    · rintro ⟨⟨h1, h3⟩, ⟨h6, h4⟩, h7⟩
      refine ⟨⟨h1, ?_⟩, h3, h4, fun q hq m' hm' => by cases hq; exact h6 m' hm'⟩
      cases p with
      | none => rfl
      | some q => simpa using (h7 q rfl).1
theorem take_posM : ∀ (l : List Mem) (n : Int), ∀ m ∈ l.take (posM l n), m.req < n
  | [], n, m, h => by simp at h
  | x :: r, n, m, h => by
    by_cases c : x.req < n
    · rw [posM, if_pos c, List.take_succ_cons] at h
      cases h with
      | head => exact c
      | tail _ h => exact take_posM r n m h
    · rw [posM, if_neg c] at h; simp at h
theorem drop_posM : ∀ (l : List Mem) (n : Int), l.Pairwise (fun a b => a.req < b.req) → memAt l n = none → ∀ m ∈ l.drop (posM l n), n < m.req
  | [], n, _, _, m, h => by simp at h
  | x :: r, n, hp, hn, m, h => by
    rw [List.pairwise_cons] at hp
    by_cases c : x.req < n
    · rw [posM, if_pos c, List.drop_succ_cons] at h
      refine drop_posM r n hp.2 ?_ m h
      simpa [memAt, posM, c] using hn
    · rw [posM, if_neg c, List.drop_zero] at h
      have hx : x.req ≠ n := fun e => by simp [memAt, posM, c, e] at hn
      cases h with
      | head => omega
      | tail _ h => have := hp.1 m h; omega
theorem mem_split {α : Type} {l : List α} {i : Nat} {x : α} (h : x ∈ l.take i ∨ x ∈ l.drop i) : x ∈ l := by
  rcases h with h | h
  · exact List.mem_of_mem_take h
  · exact List.mem_of_mem_drop h
theorem pairwise_ins {α : Type} {R : α → α → Prop} {l : List α} {i j : Nat} {es : List α} (hij : i ≤ j) (hp : l.Pairwise R) (he : es.Pairwise R) (h1 : ∀ a ∈ l.take i, ∀ e ∈ es, R a e) (h2 : ∀ e ∈ es, ∀ b ∈ l.drop j, R e b) :
    (l.take i ++ es ++ l.drop j).Pairwise R := by
  have h3 : ∀ a ∈ l.take i, ∀ b ∈ l.drop j, R a b := by
    have hp' : (l.take i ++ l.drop i).Pairwise R := by rw [List.take_append_drop]; exact hp
    rw [List.pairwise_append] at hp'
    intro a ha b hb
    refine hp'.2.2 a ha b ?_
    have e : l.drop j = (l.drop i).drop (j - i) := by rw [List.drop_drop]; congr 1; omega
    rw [e] at hb
    exact List.mem_of_mem_drop hb
  rw [List.pairwise_append, List.pairwise_append]
  refine ⟨⟨hp.sublist (List.take_sublist ..), he, h1⟩, hp.sublist (List.drop_sublist ..), fun a ha b hb => ?_⟩
  rw [List.mem_append] at ha
  rcases ha with ha | ha
  · exact h3 a ha b hb
  · exact h2 a ha b hb
theorem memB_ins {lows : List Int} {seq : Int} {l : List Mem} {m : Mem} (h : memB lows seq none l = true) (hn : memAt l m.req = none) (hm : okM lows seq m = true) :
    memB lows seq none (l.take (posM l m.req) ++ m :: l.drop (posM l m.req)) = true := by
  rw [memB_iff] at h ⊢
  obtain ⟨h1, h2, _⟩ := h
  refine ⟨fun x hx => ?_, ?_, fun q hq => by cases hq⟩
  · rw [List.mem_append, List.mem_cons] at hx
    rcases hx with hx | hx | hx
    · exact h1 x (mem_split (.inl hx))
    · rw [hx]; exact hm
    · exact h1 x (mem_split (.inr hx))
  · have := pairwise_ins (es := [m]) (Nat.le_refl (posM l m.req)) h2 (List.pairwise_singleton ..) (fun a ha e he => by
      rw [List.mem_singleton] at he; subst he; exact take_posM l _ a ha) (fun e he b hb => by
      rw [List.mem_singleton] at he; subst he; exact drop_posM l _ h2 hn b hb)
    simpa using this
theorem okM_seq {lows : List Int} {seq seq' : Int} {m : Mem} (h : okM lows seq m = true) (hs : seq ≤ seq') : okM lows seq' m = true := by
  unfold okM at *
  simp only [Bool.and_eq_true, decide_eq_true_eq] at *
  exact ⟨h.1, by omega⟩
theorem memB_seq {lows : List Int} {seq seq' : Int} {p : Option Int} {l : List Mem} (h : memB lows seq p l = true) (hs : seq ≤ seq') : memB lows seq' p l = true := by
  rw [memB_iff] at h ⊢
  exact ⟨fun m hm => okM_seq (h.1 m hm) hs, h.2⟩
theorem homeI_range (n : Int) : 0 ≤ homeI n ∧ homeI n ≤ 5 := by unfold homeI; split <;> omega
theorem lowAt_set (lows : List Int) (h h' x : Int) (hl : lows.length = 5) (r : 1 ≤ h ∧ h ≤ 5) (r' : 1 ≤ h' ∧ h' ≤ 5) : lowAt (lows.set (h - 1).toNat x) h' = if h' = h then x else lowAt lows h' := by
  unfold lowAt
  rw [List.getD_eq_getElem?_getD, List.getElem?_set]
  by_cases e : h' = h
  · subst e
    rw [if_pos rfl, if_pos rfl, if_pos (by omega)]
    rfl
  · rw [if_neg (by omega), if_neg e, List.getD_eq_getElem?_getD]
theorem memB_keep {lows : List Int} {seq low h : Int} {l : List Mem} (hl : lows.length = 5) (hr : 1 ≤ h ∧ h ≤ 5) (hm : memB lows seq none l = true) : memB (lows.set (h - 1).toNat low) seq none (keepM low h l) = true := by
  rw [memB_iff] at hm ⊢
  obtain ⟨h1, h2, _⟩ := hm
  refine ⟨fun m hmem => ?_, h2.sublist (List.filter_sublist ..), fun q hq => by cases hq⟩
  rw [keepM, List.mem_filter] at hmem
  obtain ⟨hm1, hm2⟩ := hmem
  have ho := h1 m hm1
  unfold okM at ho ⊢
  simp only [Bool.and_eq_true, decide_eq_true_eq, Bool.not_eq_true', beq_eq_false_iff_ne, ne_eq] at ho ⊢
  have hh := homeI_range m.req
  refine ⟨⟨⟨⟨⟨ho.1.1.1.1.1, ?_⟩, ho.1.1.1.2⟩, ho.1.1.2⟩, ho.1.2⟩, ho.2⟩
  rw [lowAt_set lows h _ low hl hr (by omega)]
  by_cases e : homeI m.req = h
  · rw [if_pos e]
    simp [e] at hm2
    exact hm2
  · rw [if_neg e]; exact ho.1.1.1.1.2
theorem lowsB_iff : ∀ (l : List Int) (i : Nat), lowsB i l = true ↔ ∀ (j : Nat) (x : Int), l[j]? = some x → x = 0 ∨ homeI x = (i : Int) + j + 1
  | [], i => by simp [lowsB]
  | x :: r, i => by
    rw [lowsB, Bool.and_eq_true, lowsB_iff r (i + 1), Bool.or_eq_true, beq_iff_eq, beq_iff_eq]
    constructor
    · rintro ⟨h1, h2⟩ j y hy
      cases j with
      | zero =>
        simp at hy
        subst hy
        rcases h1 with h1 | h1
        · exact .inl h1
        · right; rw [h1]; simp
      | succ j =>
        rcases h2 j y (by simpa using hy) with h | h
        · exact .inl h
        · right; rw [h]; push_cast; omega
    · intro h
      refine ⟨?_, fun j y hy => ?_⟩
      · rcases h 0 x rfl with h | h
        · exact .inl h
        · right; rw [h]; simp
      · rcases h (j + 1) y (by simpa using hy) with h | h
        · exact .inl h
        · right; rw [h]; push_cast; omega
theorem lowsB_set {lows : List Int} {h x : Int} (hb : lowsB 0 lows = true) (hr : 1 ≤ h ∧ h ≤ 5) (hx : homeI x = h) : lowsB 0 (lows.set (h - 1).toNat x) = true := by
  rw [lowsB_iff] at hb ⊢
  intro j y hy
  rw [List.getElem?_set] at hy
  by_cases e : (h - 1).toNat = j
  · rw [if_pos e] at hy
    split at hy
    · cases hy
      right
      rw [hx]
      have : (j : Int) = h - 1 := by omega
      rw [this]; simp <;> omega
    · cases hy
  · rw [if_neg e] at hy
    exact hb j y hy
theorem risV_iff : ∀ (l : List Ver) (a : Int), risV a l = true ↔ (∀ v ∈ l, verOk v = true) ∧ l.Pairwise (fun x y => x.ver < y.ver) ∧ ∀ v ∈ l, a < v.ver
  | [], a => by simp [risV]
  | v :: r, a => by
    rw [risV, Bool.and_eq_true, Bool.and_eq_true, risV_iff r v.ver, decide_eq_true_eq]
    simp only [List.mem_cons, forall_eq_or_imp, List.pairwise_cons]
    constructor
    · rintro ⟨⟨h1, h2⟩, h3, h4, h5⟩
      exact ⟨⟨h1, h3⟩, ⟨h5, h4⟩, h2, fun x hx => Int.lt_trans h2 (h5 x hx)⟩
    · rintro ⟨⟨h1, h3⟩, ⟨h5, h4⟩, h2, h6⟩
      exact ⟨⟨h1, h2⟩, h3, h4, h5⟩
theorem lastV_snoc (l : List Ver) (v : Ver) : lastV (l ++ [v]) = v := by simp [lastV, List.getLastD_eq_getLast?]
theorem lastV_mem {l : List Ver} (h : l ≠ []) : lastV l ∈ l := by
  rcases List.eq_nil_or_concat l with rfl | ⟨l', c, e0⟩
  · exact absurd rfl h
  · rw [List.concat_eq_append] at e0
    subst e0
    rw [lastV_snoc]; simp
theorem lastV_ge {l : List Ver} (hp : l.Pairwise (fun x y => x.ver < y.ver)) : ∀ v ∈ l, v.ver ≤ (lastV l).ver := by
  rcases List.eq_nil_or_concat l with rfl | ⟨l', c, e0⟩
  · intro v h; cases h
  · rw [List.concat_eq_append] at e0
    subst e0
    rw [lastV_snoc]
    rw [List.pairwise_append] at hp
    intro v hv
    rw [List.mem_append, List.mem_singleton] at hv
    rcases hv with hv | hv
    · exact Int.le_of_lt (hp.2.2 v hv c (by simp))
    · rw [hv]; exact Int.le_refl _
def okEnt (seq : Int) (e : Ent) : Prop := mayE e = true ∧ ∀ v ∈ e.vs, v.ver ≤ seq
theorem okEnt_iff {seq : Int} {e : Ent} : (mayE e && decide ((lastV e.vs).ver ≤ seq)) = true ↔ okEnt seq e := by
  rw [Bool.and_eq_true, decide_eq_true_eq]
  unfold okEnt
  constructor
  · rintro ⟨h1, h2⟩
    refine ⟨h1, fun v hv => ?_⟩
    unfold mayE at h1
    simp only [Bool.and_eq_true] at h1
    have := lastV_ge ((risV_iff _ _).1 h1.1.1.1).2.1 v hv
    omega
  · rintro ⟨h1, h2⟩
    refine ⟨h1, h2 _ (lastV_mem fun e0 => ?_)⟩
    unfold mayE at h1
    rw [e0] at h1
    simp at h1
theorem risE_iff (seq : Int) : ∀ (l : List Ent) (p : Option ByteArray), risE seq p l = true ↔ (∀ e ∈ l, okEnt seq e) ∧ l.Pairwise (fun a b => strLt a.key b.key = true) ∧ ∀ q, p = some q → ∀ e ∈ l, strLt q e.key = true
  | [], p => by simp [risE]
  | e :: r, p => by
    have e0 : risE seq p (e :: r) = ((mayE e && decide ((lastV e.vs).ver ≤ seq)) && (match p with | none => true | some k => strLt k e.key) && risE seq (some e.key) r) := by
      cases p <;> simp only [risE]
    rw [e0, Bool.and_eq_true, Bool.and_eq_true, okEnt_iff, risE_iff seq r]
    simp only [List.mem_cons, forall_eq_or_imp, List.pairwise_cons]
    constructor
    · rintro ⟨⟨h1, h2⟩, h3, h4, h5⟩
      refine ⟨⟨h1, h3⟩, ⟨fun m' hm' => h5 _ rfl m' hm', h4⟩, fun q hq => ?_⟩
      subst hq
      exact ⟨h2, fun m' hm' => strLt_trans h2 (h5 _ rfl m' hm')⟩
    · rintro ⟨⟨h1, h3⟩, ⟨h6, h4⟩, h7⟩
      refine ⟨⟨h1, ?_⟩, h3, h4, fun q hq m' hm' => by cases hq; exact h6 m' hm'⟩
      cases p with
      | none => rfl
      | some q => exact (h7 q rfl).1
theorem risE_seq {seq seq' : Int} {p : Option ByteArray} {l : List Ent} (h : risE seq p l = true) (hs : seq ≤ seq') : risE seq' p l = true := by
  rw [risE_iff] at h ⊢
  exact ⟨fun m hm => ⟨(h.1 m hm).1, fun v hv => Int.le_trans ((h.1 m hm).2 v hv) hs⟩, h.2⟩
theorem take_posK : ∀ (l : List Ent) (n : ByteArray), ∀ m ∈ l.take (posK l n), strLt m.key n = true
  | [], n, m, h => by simp at h
  | x :: r, n, m, h => by
    by_cases c : strLt x.key n = true
    · rw [posK, if_pos c, List.take_succ_cons] at h
      cases h with
      | head => exact c
      | tail _ h => exact take_posK r n m h
    · rw [posK, if_neg c] at h; simp at h
theorem entAt_some {l : List Ent} {k : ByteArray} {e : Ent} (h : entAt l k = some e) : l[posK l k]? = some e ∧ e.key = k := by
  unfold entAt at h
  cases e1 : l[posK l k]? with
  | none => rw [e1] at h; cases h
  | some x =>
    rw [e1] at h
    simp only at h
    by_cases c : strEq x.key k = true
    · rw [if_pos c] at h
      cases h
      exact ⟨rfl, strEq_iff.1 c⟩
    · rw [if_neg c] at h; cases h
theorem drop_posK : ∀ (l : List Ent) (n : ByteArray), l.Pairwise (fun a b => strLt a.key b.key = true) → ∀ m ∈ l.drop (if (entAt l n).isSome then posK l n + 1 else posK l n), strLt n m.key = true
  | [], n, _, m, h => by simp at h
  | x :: r, n, hp, m, h => by
    rw [List.pairwise_cons] at hp
    by_cases c : strLt x.key n = true
    · have e1 : entAt (x :: r) n = entAt r n := by simp [entAt, posK, c]
      have e2 : (if (entAt (x :: r) n).isSome then posK (x :: r) n + 1 else posK (x :: r) n) = (if (entAt r n).isSome then posK r n + 1 else posK r n) + 1 := by
        rw [e1, posK, if_pos c]
        split <;> rfl
      rw [e2, List.drop_succ_cons] at h
      exact drop_posK r n hp.2 m h
    · have e0 : posK (x :: r) n = 0 := by rw [posK, if_neg c]
      have e1 : entAt (x :: r) n = if strEq x.key n then some x else none := by simp [entAt, e0]
      rw [e0, e1] at h
      by_cases c2 : strEq x.key n = true
      · rw [if_pos c2] at h
        rw [strEq_iff] at c2
        simp at h
        rw [← c2]
        exact hp.1 m h
      · rw [if_neg c2] at h
        simp only [Option.isSome_none, Bool.false_eq_true, if_false, List.drop_zero] at h
        have hx : strLt n x.key = true := by
          have := strLt_tri x.key n
          have c' : strLt x.key n = false := by simpa using c
          rw [c'] at this
          have c2' : strEq n x.key = false := by
            cases e : strEq n x.key
            · rfl
            · rw [strEq_iff] at e; rw [e] at c2; exact absurd (strEq_iff.2 rfl) c2
          rw [c2'] at this
          simpa using this.symm
        cases h with
        | head => exact hx
        | tail _ h => exact strLt_trans hx (hp.1 m h)
theorem putK_ris {seq : Int} {l : List Ent} {k : ByteArray} {es : List Ent} (h : risE seq none l = true) (he : ∀ e ∈ es, okEnt seq e ∧ e.key = k) (h1 : es.length ≤ 1) : risE seq none (putK l k (entAt l k).isSome es) = true := by
  rw [risE_iff] at h ⊢
  obtain ⟨a1, a2, _⟩ := h
  refine ⟨fun x hx => ?_, ?_, fun q hq => by cases hq⟩
  · rw [putK, List.mem_append, List.mem_append] at hx
    rcases hx with (hx | hx) | hx
    · exact a1 x (List.mem_of_mem_take hx)
    · exact (he x hx).1
    · exact a1 x (List.mem_of_mem_drop hx)
  · refine pairwise_ins (by split <;> omega) a2 ?_ (fun a ha e hm => by rw [(he e hm).2]; exact take_posK l k a ha) (fun e hm b hb => by rw [(he e hm).2]; exact drop_posK l k a2 b hb)
    match es, h1 with
    | [], _ => exact List.Pairwise.nil
    | [x], _ => exact List.pairwise_singleton ..
theorem putK_len {l : List Ent} {k : ByteArray} {es : List Ent} (h1 : es.length ≤ 1) (h : l.length < 40 ∨ (entAt l k).isSome = true) (h0 : l.length ≤ 40) : (putK l k (entAt l k).isSome es).length ≤ 40 := by
  rw [putK, List.length_append, List.length_append, List.length_take, List.length_drop]
  cases e : entAt l k with
  | none =>
    rw [e] at h
    simp at h ⊢
    omega
  | some x =>
    have := (entAt_some e).1
    have hlt : posK l k < l.length := by
      rcases Nat.lt_or_ge (posK l k) l.length with h | h
      · exact h
      · rw [List.getElem?_eq_none h] at this; cases this
    simp
    omega
theorem entAt_mem {l : List Ent} {k : ByteArray} {e : Ent} (h : entAt l k = some e) : e ∈ l := List.mem_of_getElem? (entAt_some h).1
theorem idxV_lt : ∀ {l : List Ver} {n : Int} {i : Nat}, idxV l n = some i → ∃ h : i < l.length, l[i].ver = n
  | v :: r, n, i, h => by
    rw [idxV] at h
    by_cases c : (v.ver == n) = true
    · rw [if_pos c] at h
      cases h
      exact ⟨Nat.succ_pos _, by simpa using c⟩
    · rw [if_neg c] at h
      cases e : idxV r n with
      | none => rw [e] at h; cases h
      | some j =>
        rw [e] at h
        cases h
        obtain ⟨h1, h2⟩ := idxV_lt e
        exact ⟨Nat.succ_lt_succ h1, h2⟩
  | [], n, i, h => by rw [idxV] at h; cases h
theorem mayE_parts {e : Ent} : mayE e = true ↔ risV 0 e.vs = true ∧ keyB e.key = true ∧ 1 ≤ e.vs.length ∧ e.vs.length ≤ 12 := by
  simp [mayE, and_assoc]
theorem doK_res (l : List Ent) (seq : Int) (d : D) : 0 ≤ (doK l seq d).2.err ∧ (doK l seq d).2.err ≤ 13 ∧ ((doK l seq d).2.ver = 0 ∨ (doK l seq d).2.ver = seq ∨ ((doK l seq d).2.ver = d.ver ∧ d.kind = 3 ∧ (idxV ((entAt l d.key).getD ⟨d.key, []⟩).vs d.ver).isSome = true)) := by
  unfold doK
  simp only
  split
  · rename_i hk
    cases e : idxV ((entAt l d.key).getD ⟨d.key, []⟩).vs d.ver with
    | none => simp
    | some j => simp; right; right; simpa using hk
  · split
    · simp
    · split
      · simp
      · split <;> simp
theorem doK_ok {l : List Ent} {seq : Int} {d : D} (h0 : 0 ≤ seq) (hs : seq < maxN) (hd : mayD d = true) (hr : risE seq none l = true) (hl : l.length ≤ 40) :
    risE (seq + 1) none (doK l (seq + 1) d).1 = true ∧ (doK l (seq + 1) d).1.length ≤ 40 ∧ 0 ≤ (doK l (seq + 1) d).2.ver ∧ (doK l (seq + 1) d).2.ver ≤ seq + 1 := by
  have hr' := risE_seq hr (show seq ≤ seq + 1 by omega)
  have old : ∀ e : Ent, entAt l d.key = some e → okEnt seq e := fun e he => ((risE_iff seq l none).1 hr).1 e (entAt_mem he)
  have hkey : keyB d.key = true := by
    unfold mayD at hd
    simp only [Bool.and_eq_true] at hd
    exact hd.1.1.1.1
  have body := (mayD_sizes hd).2.1
  unfold doK
  simp only
  split
  · rename_i hk
    cases ea : entAt l d.key with
    | none =>
      simp only [Option.getD_none, idxV]
      exact ⟨hr', hl, by simp; omega⟩
    | some x =>
      simp only [Option.getD_some, Option.isSome_some]
      cases e : idxV x.vs d.ver with
      | none => exact ⟨hr', hl, by simp; omega⟩
      | some j =>
        obtain ⟨hj, hv⟩ := idxV_lt e
        have ho := old x ea
        have hks := (entAt_some ea).2
        have hsub : (x.vs.take j ++ x.vs.drop (j + 1)).Sublist x.vs := by
          have := (List.Sublist.refl (x.vs.take j)).append (List.drop_sublist_drop_left x.vs (Nat.le_succ j))
          rwa [List.take_append_drop] at this
        obtain ⟨p1, p2, p3, p4⟩ := mayE_parts.1 ho.1
        rw [risV_iff] at p1
        have hlen : (x.vs.take j ++ x.vs.drop (j + 1)).length = x.vs.length - 1 := by rw [List.length_append, List.length_take, List.length_drop]; omega
        have hv1 : 1 ≤ d.ver ∧ d.ver ≤ seq := by
          rw [← hv]
          have m := List.getElem_mem hj
          have a1 := p1.2.2 _ m
          have a2 := ho.2 _ m
          omega
        have key : ∀ es : List Ent, es = (if (x.vs.take j ++ x.vs.drop (j + 1)).length = 0 then [] else [⟨x.key, x.vs.take j ++ x.vs.drop (j + 1)⟩]) → es.length ≤ 1 ∧ ∀ e ∈ es, okEnt (seq + 1) e ∧ e.key = d.key := by
          intro es hes
          subst hes
          split
          · exact ⟨by simp, fun e he => by cases he⟩
          · refine ⟨by simp, fun e he => ?_⟩
            rw [List.mem_singleton] at he
            subst he
            refine ⟨⟨mayE_parts.2 ⟨(risV_iff _ _).2 ⟨fun v hv => p1.1 v (hsub.subset hv), p1.2.1.sublist hsub, fun v hv => p1.2.2 v (hsub.subset hv)⟩, p2, by simp only; omega, by simp only; omega⟩, fun v hv => ?_⟩, hks⟩
            have := ho.2 v (hsub.subset hv)
            omega
        obtain ⟨k1, k2⟩ := key _ rfl
        have r1 := putK_ris hr' k2 k1
        have r2 := putK_len (l := l) (k := d.key) k1 (.inr (by rw [ea]; rfl)) hl
        rw [ea] at r1 r2
        exact ⟨r1, r2, by simp only; omega, by simp only; omega⟩
  · rename_i hk3
    split
    · exact ⟨hr', hl, by simp; omega⟩
    · split
      · exact ⟨hr', hl, by simp; omega⟩
      · rename_i hk2
        split
        · exact ⟨hr', hl, by simp; omega⟩
        · rename_i hf
          simp only [Bool.or_eq_true, Bool.and_eq_true, decide_eq_true_eq, not_or, Bool.not_eq_true'] at hf
          have hfull := hf.2
          have hvlen : ((entAt l d.key).getD ⟨d.key, []⟩).vs.length < 12 := by simpa using hf.1
          have hnew : verOk ⟨seq + 1, d.kind == 2, d.body⟩ = true := by
            have hm : maxN = 1099511627776 := rfl
            unfold verOk
            simp only [Bool.and_eq_true, decide_eq_true_eq, Bool.or_eq_true, Bool.not_eq_true']
            refine ⟨⟨⟨by omega, by omega⟩, by omega⟩, ?_⟩
            by_cases k2 : d.kind = 2
            · right
              unfold mayD at hd
              rw [k2] at hd
              simp only [Bool.and_eq_true] at hd
              have := hd.2
              simp only [show ((2 : Int) == 1) = false by decide, show ((2 : Int) == 2) = true by decide, Bool.false_eq_true, if_false, if_true, Bool.and_eq_true] at this
              exact this.1.1.1
            · left; simpa using k2
          have hold : ∀ x : Ent, x = (entAt l d.key).getD ⟨d.key, []⟩ → risV 0 x.vs = true ∧ x.key = d.key ∧ ∀ v ∈ x.vs, v.ver ≤ seq := by
            intro x hx
            cases ea : entAt l d.key with
            | none => rw [ea] at hx; subst hx; exact ⟨rfl, rfl, fun v hv => by cases hv⟩
            | some y =>
              rw [ea] at hx
              subst hx
              have ho := old _ ea
              exact ⟨(mayE_parts.1 ho.1).1, (entAt_some ea).2, ho.2⟩
          obtain ⟨q1, q2, q3⟩ := hold _ rfl
          generalize (entAt l d.key).getD ⟨d.key, []⟩ = x at *
          rw [risV_iff] at q1
          have k2 : ∀ e ∈ ([⟨x.key, x.vs ++ [⟨seq + 1, d.kind == 2, d.body⟩]⟩] : List Ent), okEnt (seq + 1) e ∧ e.key = d.key := by
            intro e he
            rw [List.mem_singleton] at he
            subst he
            refine ⟨⟨mayE_parts.2 ⟨(risV_iff _ _).2 ⟨fun v hv => ?_, ?_, fun v hv => ?_⟩, by simp only; rw [q2]; exact hkey, by simp, by simp; omega⟩, fun v hv => ?_⟩, q2⟩
            · simp only [List.mem_append, List.mem_singleton] at hv
              rcases hv with hv | hv
              · exact q1.1 v hv
              · rw [hv]; exact hnew
            · rw [List.pairwise_append]
              refine ⟨q1.2.1, List.pairwise_singleton .., fun a ha b hb => ?_⟩
              rw [List.mem_singleton] at hb
              subst hb
              have := q3 a ha
              simp only; omega
            · simp only [List.mem_append, List.mem_singleton] at hv
              rcases hv with hv | hv
              · exact q1.2.2 v hv
              · rw [hv]; simp only; omega
            · simp only [List.mem_append, List.mem_singleton] at hv
              rcases hv with hv | hv
              · have := q3 v hv; omega
              · rw [hv]; simp only; omega
          refine ⟨putK_ris hr' k2 (by simp), putK_len (by simp) ?_ hl, by simp only; omega, by simp only; omega⟩
          by_cases c : (entAt l d.key).isSome = true
          · exact .inr c
          · left
            rcases Nat.lt_or_ge l.length 40 with h | h
            · exact h
            · exact absurd ⟨by simpa using c, h⟩ hfull
theorem mayS_parts {s : Stt} : mayS s = true ↔ (0 ≤ s.seq ∧ s.seq ≤ maxN) ∧ (s.l.length ≤ 40 ∧ s.ms.length ≤ 100) ∧ risE s.seq none s.l = true ∧ lowsB 0 s.lows = true ∧ memB s.lows s.seq none s.ms = true := by
  simp [mayS, and_assoc]
theorem mayS_doS {s : Stt} {d : D} (hl5 : s.lows.length = 5) (h : mayS s = true) : mayS (doS s d).1 = true := by
  obtain ⟨⟨a1, a2⟩, ⟨a3, a4⟩, a5, a6, a7⟩ := mayS_parts.1 h
  have more : maxN ≤ s.seq ∨ mayS ⟨s.seq + 1, s.l, s.ms, s.lows⟩ = true := by
    rcases Int.lt_or_le s.seq maxN with c | c
    · exact .inr (mayS_parts.2 ⟨⟨by simp only; omega, by simp only; omega⟩, ⟨a3, a4⟩, risE_seq a5 (by simp only; omega), a6, memB_seq a7 (by simp only; omega)⟩)
    · exact .inl c
  unfold doS
  split
  · exact h
  rename_i c1
  have hd : mayD d = true := by
    cases e : mayD d
    · simp [e] at c1
    · rfl
  split
  · exact h
  rename_i c2
  have more : mayS ⟨s.seq + 1, s.l, s.ms, s.lows⟩ = true := more.resolve_left c2
  split
  · exact more
  rename_i c3
  split
  · exact more
  rename_i c4
  split
  · exact more
  rename_i c5
  obtain ⟨b1, b2, b3, b4⟩ := doK_ok (d := d) a1 (by omega) hd a5 a3
  obtain ⟨e1, e2, _⟩ := doK_res s.l (s.seq + 1) d
  have hh := homeI_range d.req
  have hne : homeI d.req ≠ 0 := by
    unfold mayD at hd
    simp only [Bool.and_eq_true, Bool.not_eq_true', beq_eq_false_iff_ne, ne_eq] at hd
    exact hd.1.1.1.2
  have hm : memB s.lows (s.seq + 1) none (s.ms.take (posM s.ms d.req) ++ ⟨d.req, (doK s.l (s.seq + 1) d).2⟩ :: s.ms.drop (posM s.ms d.req)) = true := by
    refine memB_ins (m := ⟨d.req, _⟩) (memB_seq a7 (by omega)) c4 ?_
    unfold okM
    simp only [Bool.and_eq_true, decide_eq_true_eq, Bool.not_eq_true', beq_eq_false_iff_ne, ne_eq]
    exact ⟨⟨⟨⟨⟨hne, by omega⟩, e1⟩, e2⟩, b3⟩, b4⟩
  have hlen : (s.ms.take (posM s.ms d.req) ++ ⟨d.req, (doK s.l (s.seq + 1) d).2⟩ :: s.ms.drop (posM s.ms d.req)).length ≤ 100 := by
    rw [List.length_append, List.length_cons, List.length_take, List.length_drop]; omega
  simp only
  split
  · rename_i c6
    refine mayS_parts.2 ⟨⟨by simp only; omega, by simp only; omega⟩, ⟨b2, Nat.le_trans (List.length_filter_le ..) hlen⟩, b1, lowsB_set a6 (by omega) c6.2, memB_keep hl5 (by omega) hm⟩
  · exact mayS_parts.2 ⟨⟨by simp only; omega, by simp only; omega⟩, ⟨b2, hlen⟩, b1, a6, hm⟩
set_option maxRecDepth 100000
theorem cntL_bound (g : V → Int) (hg : ∀ v, 1 ≤ g v) (b : Nat) : ∀ (l : List V) (n : Int), (∀ x ∈ l, g x ≤ b) → n + (b * l.length : Nat) ≤ 6000 → cntL g l n ≤ n + (b * l.length : Nat)
  | [], n, h, hn => by rw [cntL]; simp
  | x :: r, n, h, hn => by
    have hx := h x (by simp)
    have e : b * (x :: r).length = b + b * r.length := by rw [List.length_cons, Nat.mul_succ, Nat.add_comm]
    rw [e] at hn ⊢
    rw [cntL_cons, if_neg (by omega)]
    have := cntL_bound g hg b r (n + g x) (fun y hy => h y (by simp [hy])) (by omega)
    omega
theorem cnt_row (f : Nat) (l : List V) : cnt (f + 1) (vRow l) = cntL (cnt f) l 1 := by
  simp [vRow, cnt, mt, strEq]
theorem cnt_num (f : Nat) (n : Int) : cnt (f + 1) (vNum n) = 1 := by simp [vNum, cnt, mt, strEq]
theorem cnt_str (f : Nat) (s : ByteArray) : cnt (f + 1) (vStr s) = 1 := by simp [vStr, cnt]
theorem cnt_ver (v : Ver) : cnt 2 (vVer v) = 4 := by simp [vVer, cnt_row, cnt_num, cnt_str, cntL]
theorem cnt_mem (f : Nat) (m : Mem) : cnt (f + 2) (vMem m) = 4 := by simp [vMem, cnt_row, cnt_num, cntL]
theorem cnt_ent (e : Ent) (h : e.vs.length ≤ 12) : cnt 4 (vEnt e) ≤ 51 := by
  have h1 := cntL_bound (cnt 2) (fun v => (cnt_range 2 v).1) 4 (e.vs.map vVer) 1 (fun x hx => by
    obtain ⟨v, _, rfl⟩ := List.mem_map.1 hx
    rw [cnt_ver]; decide) (by rw [List.length_map]; omega)
  rw [List.length_map] at h1
  rw [vEnt, cnt_row, cntL_cons, cnt_str, if_neg (by decide), cntL_cons, cnt_row, if_neg (by omega), cntL]
  omega
theorem mayV_vStt (s : Stt) (h5 : s.lows.length = 5) (h : mayS s = true) : mayV (vStt s) = true := by
  obtain ⟨_, ⟨a3, a4⟩, a5, _, _⟩ := mayS_parts.1 h
  have he := ((risE_iff _ _ _).1 a5).1
  have h1 := cntL_bound (cnt 4) (fun v => (cnt_range 4 v).1) 51 (s.l.map vEnt) 1 (fun x hx => by
    obtain ⟨e, hm, rfl⟩ := List.mem_map.1 hx
    exact cnt_ent e (mayE_parts.1 (he e hm).1).2.2.2) (by rw [List.length_map]; omega)
  have h2 := cntL_bound (cnt 4) (fun v => (cnt_range 4 v).1) 4 (s.ms.map vMem) 1 (fun x hx => by
    obtain ⟨e, hm, rfl⟩ := List.mem_map.1 hx
    rw [cnt_mem]; decide) (by rw [List.length_map]; omega)
  have h3 := cntL_bound (cnt 4) (fun v => (cnt_range 4 v).1) 1 (s.lows.map vNum) 1 (fun x hx => by
    obtain ⟨e, hm, rfl⟩ := List.mem_map.1 hx
    rw [cnt_num]; decide) (by rw [List.length_map]; omega)
  rw [List.length_map] at h1 h2 h3
  rw [mayV, decide_eq_true_eq, vStt, cnt_row, cntL_cons, cnt_num, if_neg (by decide), cntL_cons, cnt_row, if_neg (by omega), cntL_cons, cnt_row, if_neg (by omega), cntL_cons, cnt_row, if_neg (by omega), cntL]
  omega
theorem putL_bound (b : Nat) : ∀ l : List V, (∀ x ∈ l, (putV x).length ≤ b) → (putL l).length ≤ b * l.length
  | [], _ => by rw [putL]; simp
  | x :: r, h => by
    have h1 := h x (by simp)
    have h2 := putL_bound b r fun y hy => h y (by simp [hy])
    rw [putL, List.length_append, List.length_cons, Nat.mul_succ]
    omega
theorem txt_row (l : List V) : txtV (vRow l) = putL l := by simp [vRow, txtV]
theorem putV_row (l : List V) (b : Nat) (h : (putL l).length ≤ b) (hb : b < 10000000) : (putV (vRow l)).length ≤ b + 9 := by
  rw [putV_len, txt_row]
  have := dec_len7 (u := (putL l).length) (by omega)
  omega
theorem homeI_ok {n : Int} (h : homeI n ≠ 0) : 4294967296 ≤ n ∧ n < 25769803776 := by unfold homeI at h; split at h <;> omega
theorem okM_nums {lows : List Int} {seq : Int} {m : Mem} (hs : seq ≤ maxN) (h : okM lows seq m = true) : i64ok m.req ∧ i64ok m.res.err ∧ i64ok m.res.ver := by
  unfold okM at h
  simp only [Bool.and_eq_true, decide_eq_true_eq, Bool.not_eq_true', beq_eq_false_iff_ne, ne_eq] at h
  have := homeI_ok h.1.1.1.1.1
  have hm : maxN = 1099511627776 := rfl
  unfold i64ok
  omega
theorem putV_mem (m : Mem) (h : i64ok m.req ∧ i64ok m.res.err ∧ i64ok m.res.ver) : (putV (vMem m)).length ≤ 99 := by
  have a1 := putV_num _ h.1
  have a2 := putV_num _ h.2.1
  have a3 := putV_num _ h.2.2
  refine putV_row _ 90 ?_ (by decide)
  simp only [putL, List.length_append, List.length_nil]
  omega
theorem verOk_nums {v : Ver} (h : verOk v = true) : i64ok v.ver ∧ v.body.size ≤ 300 := by
  unfold verOk at h
  simp only [Bool.and_eq_true, decide_eq_true_eq] at h
  unfold i64ok
  omega
theorem putV_ver (v : Ver) (h : verOk v = true) : (putV (vVer v)).length ≤ 378 := by
  obtain ⟨h1, h2⟩ := verOk_nums h
  have a1 := putV_num _ h1
  have a2 := putV_num (if v.gone then 1 else 0) (by unfold i64ok; split <;> omega)
  have a3 := putV_str v.body (by omega)
  refine putV_row _ 369 ?_ (by decide)
  simp only [putL, List.length_append, List.length_nil]
  omega
theorem okEnt_vers {seq : Int} {e : Ent} (h : okEnt seq e) : ∀ v ∈ e.vs, verOk v = true := ((risV_iff _ _).1 (mayE_parts.1 h.1).1).1
theorem putV_ent {seq : Int} (e : Ent) (h : okEnt seq e) : (putV (vEnt e)).length ≤ 4603 := by
  obtain ⟨_, h2, _, h4⟩ := mayE_parts.1 h.1
  have a1 := putV_str e.key (by have := keyB_len h2; omega)
  have a2 := putL_bound 378 (e.vs.map vVer) fun x hx => by
    obtain ⟨v, hv, rfl⟩ := List.mem_map.1 hx
    exact putV_ver v (okEnt_vers h v hv)
  rw [List.length_map] at a2
  have a3 := putV_row (e.vs.map vVer) 4536 (by omega) (by decide)
  have := keyB_len h2
  refine putV_row _ 4594 ?_ (by decide)
  simp only [putL, List.length_append, List.length_nil]
  omega
theorem txt_vStt (s : Stt) (h5 : s.lows.length = 5) (h : mayS s = true) : (txtV (vStt s)).length ≤ 200000 := by
  obtain ⟨⟨a1, a2⟩, ⟨a3, a4⟩, a5, a6, a7⟩ := mayS_parts.1 h
  have hm : maxN = 1099511627776 := rfl
  have he := ((risE_iff _ _ _).1 a5).1
  have hM := ((memB_iff _ _ _ _).1 a7).1
  have b1 := putL_bound 4603 (s.l.map vEnt) fun x hx => by
    obtain ⟨v, hv, rfl⟩ := List.mem_map.1 hx
    exact putV_ent v (he v hv)
  have b2 := putL_bound 99 (s.ms.map vMem) fun x hx => by
    obtain ⟨v, hv, rfl⟩ := List.mem_map.1 hx
    exact putV_mem v (okM_nums a2 (hM v hv))
  have b3 := putL_bound 30 (s.lows.map vNum) fun x hx => by
    obtain ⟨v, hv, rfl⟩ := List.mem_map.1 hx
    obtain ⟨j, hj⟩ := List.getElem?_of_mem hv
    refine putV_num v ?_
    rcases (lowsB_iff _ _).1 a6 j v hj with h | h
    · subst h; unfold i64ok; omega
    · have := homeI_ok (n := v) (by omega)
      unfold i64ok; omega
  rw [List.length_map] at b1 b2 b3
  have c0 := putV_num s.seq (by unfold i64ok; omega)
  have c1 := putV_row (s.l.map vEnt) 184120 (by omega) (by decide)
  have c2 := putV_row (s.ms.map vMem) 9900 (by omega) (by decide)
  have c3 := putV_row (s.lows.map vNum) 150 (by omega) (by decide)
  rw [vStt, txt_row]
  simp only [putL, List.length_append, List.length_nil]
  omega
theorem okL_map {α : Type} (f : α → V) (l : List α) (h : ∀ x ∈ l, okV (f x)) : okL (l.map f) := by
  induction l with
  | nil => rw [List.map_nil, okL]; trivial
  | cons a r ih => rw [List.map_cons, okL]; exact ⟨h a (by simp), ih fun x hx => h x (by simp [hx])⟩
theorem okV_row (l : List V) (h : okL l) : okV (vRow l) := by rw [vRow, okV]; exact ⟨by unfold i64ok; omega, h⟩
theorem okV_num (n : Int) (h : i64ok n) : okV (vNum n) := by rw [vNum, okV, okL]; exact ⟨h, trivial⟩
theorem okV_str (s : ByteArray) : okV (vStr s) := by rw [vStr, okV, okL]; exact ⟨by unfold i64ok; omega, trivial⟩
theorem okV_ver (v : Ver) (h : verOk v = true) : okV (vVer v) :=
  okV_row _ (by simp only [okL]; exact ⟨okV_num _ (verOk_nums h).1, okV_num _ (by unfold i64ok; split <;> omega), okV_str _, trivial⟩)
theorem okV_ent {seq : Int} (e : Ent) (h : okEnt seq e) : okV (vEnt e) :=
  okV_row _ (by simp only [okL]; exact ⟨okV_str _, okV_row _ (okL_map _ _ fun v hv => okV_ver v (okEnt_vers h v hv)), trivial⟩)
theorem okV_mem (m : Mem) (h : i64ok m.req ∧ i64ok m.res.err ∧ i64ok m.res.ver) : okV (vMem m) :=
  okV_row _ (by simp only [okL]; exact ⟨okV_num _ h.1, okV_num _ h.2.1, okV_num _ h.2.2, trivial⟩)
theorem okV_vStt (s : Stt) (h : mayS s = true) : okV (vStt s) := by
  obtain ⟨⟨a1, a2⟩, ⟨a3, a4⟩, a5, a6, a7⟩ := mayS_parts.1 h
  have hm : maxN = 1099511627776 := rfl
  have he := ((risE_iff _ _ _).1 a5).1
  have hM := ((memB_iff _ _ _ _).1 a7).1
  refine okV_row _ ?_
  simp only [okL]
  refine ⟨okV_num _ (by unfold i64ok; omega), okV_row _ (okL_map _ _ fun e hv => okV_ent e (he e hv)), okV_row _ (okL_map _ _ fun m hv => okV_mem m (okM_nums a2 (hM m hv))), okV_row _ (okL_map _ _ fun x hv => okV_num x ?_), trivial⟩
  obtain ⟨j, hj⟩ := List.getElem?_of_mem hv
  rcases (lowsB_iff _ _).1 a6 j x hj with h | h
  · subst h; unfold i64ok; omega
  · have := homeI_ok (n := x) (by omega)
    unfold i64ok; omega
theorem verV_vVer (v : Ver) : verV (vVer v) = v := by
  obtain ⟨a, b, c⟩ := v
  cases b <;> rfl
theorem entV_vEnt (e : Ent) : entV (vEnt e) = e := by
  obtain ⟨k, vs⟩ := e
  have e1 : entV (vEnt ⟨k, vs⟩) = ⟨k, (vs.map vVer).map verV⟩ := rfl
  rw [e1, List.map_map]
  have : (verV ∘ vVer) = id := funext verV_vVer
  rw [this, List.map_id]
theorem memV_vMem (m : Mem) : memV (vMem m) = m := rfl
theorem sttV_vStt (s : Stt) (h5 : s.lows.length = 5) : sttV (vStt s) = s := by
  obtain ⟨seq, l, ms, lows⟩ := s
  have e1 : sttV (vStt ⟨seq, l, ms, lows⟩) = ⟨seq, (l.map vEnt).map entV, (ms.map vMem).map memV, (List.range 5).map fun i => vN ((lows.map vNum).getD i V0)⟩ := rfl
  have e2 : (entV ∘ vEnt) = id := funext entV_vEnt
  have e3 : (memV ∘ vMem) = id := funext memV_vMem
  rw [e1, List.map_map, List.map_map, e2, e3, List.map_id, List.map_id]
  congr 1
  simp only at h5
  match lows, h5 with
  | [a, b, c, d, e], _ => rfl
theorem putStt_may (s : Stt) (h5 : s.lows.length = 5) (h : mayS s = true) : putStt s = putV (vStt s) := by
  have h1 := txt_vStt s h5 h
  have := dec_len7 (u := (txtV (vStt s)).length) (by omega)
  rw [putStt, if_pos h, putS, mayV_vStt s h5 h]
  simp [this]
theorem readStt_put (s : Stt) (h5 : s.lows.length = 5) (h : mayS s = true) : readStt (putStt s) = (s, 0) := by
  have h1 := txt_vStt s h5 h
  have ep := putStt_may s h5 h
  have ea := allV_put (vStt s) (mayV_vStt s h5 h) (okV_vStt s h) (by omega)
  rw [← ep] at ea
  unfold readStt
  rw [ea]
  simp only [ne_eq, not_true_eq_false, if_false]
  rw [sttV_vStt s h5, if_neg]
  rintro (h | h)
  · rw [ep] at h; exact putV_ne _ h
  · exact h rfl
set_option maxRecDepth 100000
theorem toList_strEq (a b : ByteArray) : (a.toList == b.toList) = strEq a b := by
  rw [ByteArray.toList_eq, ByteArray.toList_eq]
  rfl
theorem eqVer_in (d : Nat) (w : World) (a b : Ver) : (Op.equalIn (d + 2) 52 (.agg (verC a).toArray) (.agg (verC b).toArray)).run Tryz.prog w = .ok (eqVer a b) w := by
  have e := run_equalIn_struct (P := Tryz.prog) w (d + 1) 52 (verC a).toArray (verC b).toArray (by kernel_rfl) (by kernel_rfl)
  rw [e]
  have hf : (Tryz.prog.fieldsOf 52).toList = (match Tryz.prog.underlying 52 with | some (.struct fs) => fs.toList | _ => []) := by kernel_rfl
  rw [hf, Tryz.underlying52]
  simp [verC, eqVer, ← toList_strEq, Op.eqFields, run_equalIn_int _ _ _ _ _ _ _ Tryz.underlying2, run_equalIn_bool' _ _ _ _ _ Tryz.underlying4, run_equalIn_string _ _ _ _ _ Tryz.underlying9, part, isAgg, run_underlying Tryz.underlying2, run_underlying Tryz.underlying4, run_underlying Tryz.underlying9]
  by_cases h1 : a.ver = b.ver <;> by_cases h2 : a.gone = b.gone <;> by_cases h3 : a.body.toList = b.body.toList <;> simp [h1, h2, h3]
theorem eqRes_in (d : Nat) (w : World) (a b : Res) : (Op.equalIn (d + 2) 54 (.agg #[.int .i64 a.err, .int .i64 a.ver]) (.agg #[.int .i64 b.err, .int .i64 b.ver])).run Tryz.prog w = .ok (a.err == b.err && a.ver == b.ver) w := by
  have e := run_equalIn_struct (P := Tryz.prog) w (d + 1) 54 #[.int .i64 a.err, .int .i64 a.ver] #[.int .i64 b.err, .int .i64 b.ver] (by kernel_rfl) (by kernel_rfl)
  rw [e]
  have hf : (Tryz.prog.fieldsOf 54).toList = (match Tryz.prog.underlying 54 with | some (.struct fs) => fs.toList | _ => []) := by kernel_rfl
  rw [hf, Tryz.underlying54]
  simp [Op.eqFields, run_equalIn_int _ _ _ _ _ _ _ Tryz.underlying2, run_equalIn_int _ _ _ _ _ _ _ Tryz.underlying27, part, isAgg, run_underlying Tryz.underlying2, run_underlying Tryz.underlying27]
  by_cases h1 : a.err = b.err <;> by_cases h2 : a.ver = b.ver <;> simp [h1, h2]
theorem size_res (w : World) : (Go.sizeOf 54).run Tryz.prog w = .ok 2 w := by kernel_rfl
theorem eqMem_in (d : Nat) (w : World) (a b : Mem) : (Op.equalIn (d + 3) 56 (.agg (memC a).toArray) (.agg (memC b).toArray)).run Tryz.prog w = .ok (eqMem a b) w := by
  have e := run_equalIn_struct (P := Tryz.prog) w (d + 2) 56 (memC a).toArray (memC b).toArray (by kernel_rfl) (by kernel_rfl)
  rw [e]
  have hf : (Tryz.prog.fieldsOf 56).toList = (match Tryz.prog.underlying 56 with | some (.struct fs) => fs.toList | _ => []) := by kernel_rfl
  rw [hf, Tryz.underlying56]
  have hr : ∀ w, (Op.equalIn (d + 2) 54 (.agg #[.int .i64 a.res.err, .int .i64 a.res.ver]) (.agg #[.int .i64 b.res.err, .int .i64 b.res.ver])).run Tryz.prog w = .ok (a.res.err == b.res.err && a.res.ver == b.res.ver) w := fun w => eqRes_in d w a.res b.res
  simp [memC, eqMem, Op.eqFields, run_equalIn_int _ _ _ _ _ _ _ Tryz.underlying2, part, isAgg, run_underlying Tryz.underlying2, run_underlying Tryz.underlying54, size_res, hr]
  by_cases h1 : a.req = b.req <;> by_cases h2 : a.res.err = b.res.err <;> by_cases h3 : a.res.ver = b.res.ver <;> simp [h1, h2, h3]
def eqD (a b : D) : Bool := a.kind == b.kind && (strEq a.key b.key && (strEq a.body b.body && (a.ver == b.ver && (a.cond == b.cond && (strEq a.tag b.tag && (a.req == b.req && a.low == b.low))))))
theorem eqD_iff {a b : D} : eqD a b = true ↔ a = b := by
  obtain ⟨a1, a2, a3, a4, a5, a6, a7, a8⟩ := a
  obtain ⟨b1, b2, b3, b4, b5, b6, b7, b8⟩ := b
  simp [eqD, strEq_iff]
theorem eqD_in (d : Nat) (w : World) (a b : D) : (Op.equalIn (d + 2) 32 (.agg (dC a).toArray) (.agg (dC b).toArray)).run Tryz.prog w = .ok (eqD a b) w := by
  have e := run_equalIn_struct (P := Tryz.prog) w (d + 1) 32 (dC a).toArray (dC b).toArray (by kernel_rfl) (by kernel_rfl)
  rw [e]
  have hf : (Tryz.prog.fieldsOf 32).toList = (match Tryz.prog.underlying 32 with | some (.struct fs) => fs.toList | _ => []) := by kernel_rfl
  rw [hf, Tryz.underlying32]
  simp [dC, eqD, ← toList_strEq, Op.eqFields, run_equalIn_int _ _ _ _ _ _ _ Tryz.underlying2, run_equalIn_int _ _ _ _ _ _ _ Tryz.underlying3, run_equalIn_string _ _ _ _ _ Tryz.underlying9, part, isAgg, run_underlying Tryz.underlying2, run_underlying Tryz.underlying3, run_underlying Tryz.underlying9]
  by_cases h1 : a.kind = b.kind
  rotate_left
  · simp [h1]
  by_cases h2 : a.key.toList = b.key.toList
  rotate_left
  · simp [h1, h2]
  by_cases h3 : a.body.toList = b.body.toList
  rotate_left
  · simp [h1, h2, h3]
  by_cases h4 : a.ver = b.ver
  rotate_left
  · simp [h1, h2, h3, h4]
  by_cases h5 : a.cond = b.cond
  rotate_left
  · simp [h1, h2, h3, h4, h5]
  by_cases h6 : a.tag.toList = b.tag.toList
  rotate_left
  · simp [h1, h2, h3, h4, h5, h6]
  by_cases h7 : a.req = b.req <;> by_cases h8 : a.low = b.low <;> simp [h1, h2, h3, h4, h5, h6, h7, h8]
theorem eql_run {T : TypeId} {xs ys : Array Value} {r : Bool} (hm : Tryz.prog.eqGuardType Tryz.prog.depth T = false) (h : ∀ w, (Op.equalIn 10000 T (.agg xs) (.agg ys)).run Tryz.prog w = .ok r w) (ox oy : Operand) (w : World) :
    (do eqGuard .eql T ox oy (.agg xs) (.agg ys); Go.binOp .eql T (.agg xs) (.agg ys) : Sem Value).run Tryz.prog w = .ok (.bool r) w := by
  simp only [Sem.run_bind, run_eqGuard_agg w .eql T ox oy xs ys hm, Result.andThen_ok, run_eql_struct, h]
theorem neq_run {T : TypeId} {xs ys : Array Value} {r : Bool} (hm : Tryz.prog.eqGuardType Tryz.prog.depth T = false) (h : ∀ w, (Op.equalIn 10000 T (.agg xs) (.agg ys)).run Tryz.prog w = .ok r w) (ox oy : Operand) (w : World) :
    (do eqGuard .neq T ox oy (.agg xs) (.agg ys); Go.binOp .neq T (.agg xs) (.agg ys) : Sem Value).run Tryz.prog w = .ok (.bool (!r)) w := by
  simp only [Sem.run_bind, run_eqGuard_agg w .neq T ox oy xs ys hm, Result.andThen_ok, run_neq_struct, h]
theorem gd_ver : Tryz.prog.eqGuardType Tryz.prog.depth 52 = false := by kernel_rfl
theorem gd_res : Tryz.prog.eqGuardType Tryz.prog.depth 54 = false := by kernel_rfl
theorem gd_mem : Tryz.prog.eqGuardType Tryz.prog.depth 56 = false := by kernel_rfl
theorem gd_deed : Tryz.prog.eqGuardType Tryz.prog.depth 32 = false := by kernel_rfl
set_option maxRecDepth 100000
theorem verC_flat (l : List Ver) : Flat 3 (l.map verC) := Flat.map verC (fun _ => ⟨rfl, rfl⟩) l
theorem RowV.elem {S : Nat → Prop} {w : World} {A : Option Addr} {n cap : Nat} {l : List Ver} (hR : Row S w A n cap (l.map verC).flatten) (i : Nat) (hi : i < l.length) : ∃ ad, A = some ad ∧ Go.Vc.cellsAt w (ad.add (i * 3)) (verC l[i]) 0 := by
  obtain ⟨ad, e, h⟩ := Row.elemF hR (by decide) (verC_flat l) i (by rw [List.length_map]; exact hi)
  rw [List.getElem_map] at h
  exact ⟨ad, e, h⟩
theorem row_max {S : Nat → Prop} {w : World} {A : Option Addr} {n cap : Nat} {xs : List Value} (hR : Row S w A n cap xs) : n ≤ 9223372036854775807 := Nat.le_trans (Nat.le_trans hR.1 hR.2.1) (by decide)
theorem lastV_get {l : List Ver} (h : l.length - 1 < l.length) : lastV l = l[l.length - 1] := by
  unfold lastV
  rw [List.getLastD_eq_getLast?, List.getLast?_eq_getElem?, List.getElem?_eq_getElem h]
  rfl
theorem version_any (v : Ver) (w : World) : Calls Tryz.prog 143 #[.agg (verC v).toArray] w (RetB (.bool (verOk v)) w) := by
  refine calls_vc lay_ok Tryz.func143 rfl (by kernel_rfl) (by kernel_rfl) ?_
  intro g w1 h1
  have hc := ((Ctx.start w no (fun _ h => h.elim)).loc h1).1
  repeat' (first | refine split_t (by assumption) ?_ | refine split_f (by assumption) ?_ | refine vc_nz (by decide) ?_ | refine ⟨_, hc.cell 0 rfl _ rfl, ?_⟩ | refine split_ (fun _ => ?_) (fun _ => ?_))
  all_goals (refine ⟨ret_bool ?_, hc.below⟩)
  all_goals clear hc h1
  all_goals try simp only [Bool.not_eq_true', Bool.not_eq_false'] at *
  all_goals simp only [verOk, mt, *]
  all_goals first | rfl | (simp; done) | skip
theorem now_any (e : Ent) (A : Option Addr) (cap : Nat) (S : Nat → Prop) (w : World) (hR : Row S w A e.vs.length cap (e.vs.map verC).flatten) :
    Calls Tryz.prog 148 #[.agg #[.string e.key, .slice A e.vs.length cap]] w (RetB (.tuple #[.agg (verC (nowE e).1).toArray, .bool (nowE e).2]) w) := by
  refine calls_vc lay_ok Tryz.func148 rfl (by kernel_rfl) (by kernel_rfl) ?_
  intro g1 w1 h1
  have hc := ((Ctx.start w no (fun _ h => h.elim)).loc h1).1
  intro g2 w2 h2
  have hc := (hc.loc h2).1
  refine ⟨_, hc.cell 1 rfl _ rfl, ?_⟩
  have hM := row_max hR
  by_cases h0 : e.vs.length = 0
  · refine split_t (by show ((e.vs.length : Int) == 0) = true; rw [h0]; rfl) ?_
    repeat (first | (intro gA wA hA; have hc := (hc.loc hA).1) | refine ⟨_, hc.cell 0 rfl _ rfl, ?_⟩ | (refine ⟨_, ?_, hc.cells 0 rfl, ?_⟩; (· rfl)) | (refine ⟨hc.may 0 rfl _ _ (nle rfl) rfl, ?_⟩; intro wA hA; have hc := (hc.set 0 rfl hA).1) | refine ⟨_, hc.cell 1 rfl _ rfl, ?_⟩ | (refine ⟨_, ?_, hc.cells 1 rfl, ?_⟩; (· rfl)) | (refine ⟨hc.may 1 rfl _ _ (nle rfl) rfl, ?_⟩; intro wA hA; have hc := (hc.set 1 rfl hA).1) | refine ⟨_, hc.cell 2 rfl _ rfl, ?_⟩ | (refine ⟨_, ?_, hc.cells 2 rfl, ?_⟩; (· rfl)) | (refine ⟨hc.may 2 rfl _ _ (nle rfl) rfl, ?_⟩; intro wA hA; have hc := (hc.set 2 rfl hA).1) | refine ⟨_, hc.cell 3 rfl _ rfl, ?_⟩ | (refine ⟨_, ?_, hc.cells 3 rfl, ?_⟩; (· rfl)) | (refine ⟨hc.may 3 rfl _ _ (nle rfl) rfl, ?_⟩; intro wA hA; have hc := (hc.set 3 rfl hA).1) | refine ⟨_, hc.cell 4 rfl _ rfl, ?_⟩ | (refine ⟨_, ?_, hc.cells 4 rfl, ?_⟩; (· rfl)) | (refine ⟨hc.may 4 rfl _ _ (nle rfl) rfl, ?_⟩; intro wA hA; have hc := (hc.set 4 rfl hA).1))
    rw [nowE, if_pos h0]
    exact ⟨rfl, hc.below⟩
  refine split_f (by show ((e.vs.length : Int) == 0) = false; rw [beq_eq_false_iff_ne]; omega) ?_
  have hlt : e.vs.length - 1 < e.vs.length := by omega
  obtain ⟨ad, rfl, hcell⟩ := RowV.elem (hR.below hc.below) (e.vs.length - 1) hlt
  have hw : IntKind.i64.wrap ((e.vs.length : Int) - 1) = ((e.vs.length - 1 : Nat) : Int) := by rw [IntWalk.i64_in _ ⟨by omega, by omega⟩]; omega
  refine ⟨_, hc.cell 1 rfl _ rfl, ?_⟩
  refine ⟨_, hc.cell 1 rfl _ rfl, ?_⟩
  refine ⟨⟨by rw [hw]; omega, by rw [hw]; omega⟩, ?_⟩
  refine ⟨verC e.vs[e.vs.length - 1], rfl, by rw [hw, Int.toNat_natCast]; exact hcell, ?_⟩
  intro g4 w4 h4
  have hc := (hc.loc h4).1
  refine ⟨hc.may 0 rfl 0 _ (Nat.le_refl 3) rfl, ?_⟩
  intro w5 h5
  have hc := (hc.set 0 rfl h5).1
  refine drawn lay_ok (by kernel_rfl) (.q 0 (.q 1 (.q 2 (.q 3 (.n 4 (.q 5 .fin) .stop))))) (fun x => x.cell? ⟨g4, 0, none⟩ = some (.int .i64 e.vs[e.vs.length - 1].ver) ∧ x.cell? ⟨g4, 1, none⟩ = some (.bool e.vs[e.vs.length - 1].gone) ∧ x.cell? ⟨g4, 2, none⟩ = some (.string e.vs[e.vs.length - 1].body)) (by kernel_rfl) ⟨hc.cell 0 rfl _ rfl, hc.cell 0 rfl _ rfl, hc.cell 0 rfl _ rfl⟩ ?_
  have hc := hc.drew
  refine ⟨verC e.vs[e.vs.length - 1], rfl, fun x hx => ⟨hx.1, hx.2.1, hx.2.2, trivial⟩, ?_⟩
  refine ⟨_, fun x hx => hx.2.1, ?_⟩
  refine ⟨?_, trivial⟩
  refine ⟨hc.may 1 rfl 0 _ (Nat.le_refl 3) rfl, ?_⟩
  intro w6 h6
  have hc := (hc.set 1 rfl h6).1
  refine ⟨⟨hc.cell 0 rfl _ rfl, hc.cell 0 rfl _ rfl, hc.cell 0 rfl _ rfl⟩, ?_⟩
  refine ⟨_, ?_, hc.cells 1 rfl, ?_⟩
  · rfl
  refine ⟨?_, hc.below⟩
  rw [nowE, if_neg h0, lastV_get hlt]
  rfl
theorem holds_any (e : Ent) (c : Int) (tag : ByteArray) (A : Option Addr) (cap : Nat) (S : Nat → Prop) (w : World) (hR : Row S w A e.vs.length cap (e.vs.map verC).flatten) (hb : (nowE e).1.body.size ≤ maxLen) :
    Calls Tryz.prog 183 #[.agg #[.string e.key, .slice A e.vs.length cap], .int .i64 c, .string tag] w (RetB (.bool (holdsE e c tag)) w) := by
  refine calls_vc lay_ok Tryz.func183 rfl (by kernel_rfl) (by kernel_rfl) ?_
  intro g1 w1 h1
  have hc := ((Ctx.start w no (fun _ h => h.elim)).loc h1).1
  refine ⟨_, ?_, hc.cells 0 rfl, ?_⟩
  · rfl
  refine call_b (now_any e A cap S w1 (hR.below hc.below)) ?_
  intro w2 h2
  have hc := (hc.quiet h2).1
  intro g4 w4 h4
  have hc := (hc.loc h4).1
  unfold holdsE
  generalize nowE e = q at *
  obtain ⟨v, is⟩ := q
  simp only at hb ⊢
  refine ⟨hc.may 0 rfl 0 _ (Nat.le_refl 3) rfl, ?_⟩
  intro w5 h5
  have hc := (hc.set 0 rfl h5).1
  cases c0 : (c == 0)
  rotate_left
  · refine split_t c0 ?_
    exact ⟨rfl, hc.below⟩
  refine split_f c0 ?_
  cases c1 : (c == 1)
  rotate_left
  · refine split_t c1 ?_
    exact ⟨rfl, hc.below⟩
  refine split_f c1 ?_
  cases c2 : (c == 2)
  · refine split_f c2 ?_
    exact ⟨rfl, hc.below⟩
  refine split_t c2 ?_
  cases is
  · exact ⟨rfl, hc.below⟩
  refine ⟨_, hc.cell 0 rfl _ rfl, ?_⟩
  refine call_b (tag_any v.body hb _) ?_
  intro w6 h6
  have hc := (hc.quiet h6).1
  exact ⟨rfl, hc.below⟩
def idxI (o : Option Nat) : Int := match o with | some i => (i : Int) | none => -1
theorem place1_any (v : Ver) (a : Addr) (n : Int) (w : World) (ha : w.cell? a = some (.int .i64 n)) : Calls Tryz.prog 220 #[.agg (verC v).toArray, .pointer (some a)] w (RetB (.bool (v.ver == n)) w) := by
  obtain ⟨ab, ao, asub⟩ := a
  refine calls_vc lay_ok Tryz.func220 rfl (by kernel_rfl) (by kernel_rfl) ?_
  intro g w1 h1
  have hc := ((Ctx.start w no (fun _ h => h.elim)).loc h1).1
  refine ⟨_, hc.cell 0 rfl _ rfl, ?_⟩
  refine ⟨_, cell_later hc.below ha, ?_⟩
  exact ⟨rfl, hc.below⟩
theorem idxV_drop (l : List Ver) (n : Int) : ∀ i, i ≤ l.length → (∀ j (hj : j < l.length), j < i → (l[j].ver == n) = false) → idxV l n = (idxV (l.drop i) n).map (· + i) := by
  intro i
  induction i with
  | zero => intro _ _; simp
  | succ i ih =>
    intro hi h
    have hlt : i < l.length := by omega
    rw [ih (by omega) fun j hj hji => h j hj (by omega), List.drop_eq_getElem_cons hlt, idxV, h i hlt (by omega)]
    simp only [Bool.false_eq_true, if_false, Option.map_map]
    congr 1
    funext x
    simp only [Function.comp_apply]
    omega
theorem indexFuncV_any (l : List Ver) (n : Int) (a : Addr) (A : Option Addr) (cap : Nat) (S : Nat → Prop) (w : World) (hR : Row S w A l.length cap (l.map verC).flatten) (ha : w.cell? a = some (.int .i64 n)) :
    Calls Tryz.prog 219 #[.slice A l.length cap, .func (.func 220) #[] #[.pointer (some a)]] w (RetB (.int .i64 (idxI (idxV l n))) w) := by
  refine calls_vc lay_ok Tryz.func219 rfl (by kernel_rfl) (by kernel_rfl) ?_
  have hM := row_max hR
  refine ⟨Nat, fun i => [(0, .slice A l.length cap), (1, .func (.func 220) #[] #[.pointer (some a)]), (7, .int .i64 l.length), (8, .int .i64 i)],
    fun i w' => i ≤ l.length ∧ (∀ j (hj : j < l.length), j < i → (l[j].ver == n) = false) ∧ Below w.heap.size w w', fun i _ => l.length - i, 0,
    ⟨rfl, rfl, rfl, rfl, trivial⟩, ⟨Nat.zero_le _, fun j hj h => absurd h (Nat.not_lt_zero _), Below.refl _ _⟩, ?_⟩
  rintro i w' u ⟨hi, he, hb⟩
  by_cases hlt : i < l.length
  · refine split_t (decide_eq_true (by omega)) ?_
    obtain ⟨ad, rfl, hcell⟩ := RowV.elem (hR.below hb) i hlt
    refine ⟨⟨by omega, by omega⟩, ?_⟩
    refine ⟨verC l[i], rfl, hcell, ?_⟩
    refine call_b (place1_any l[i] a n w' (cell_later hb ha)) ?_
    intro w2 h2
    have hb2 := hb.trans (h2.mono hb.size)
    cases hv : (l[i].ver == n)
    · refine ⟨i + 1, ⟨rfl, rfl, rfl, congrArg _ (i_down (by omega)), trivial⟩, ⟨hlt, fun j hj h => ?_, hb2⟩, by show l.length - (i + 1) < l.length - i; omega⟩
      rcases Nat.lt_succ_iff_lt_or_eq.1 h with h | h
      · exact he j hj h
      · subst h; exact hv
    · refine ⟨?_, hb2⟩
      rw [idxV_drop l n i hi he, List.drop_eq_getElem_cons hlt, idxV, hv]
      show Ending.returned (.int .i64 (i : Int)) = Ending.returned (.int .i64 ((0 + i : Nat) : Int))
      rw [Nat.zero_add]
  · refine split_f (decide_eq_false (by omega)) ?_
    refine ⟨?_, hb⟩
    rw [idxV_drop l n i hi he, List.drop_of_length_le (by omega), idxV]
    rfl
theorem place_any (e : Ent) (n : Int) (A : Option Addr) (cap : Nat) (S : Nat → Prop) (w : World) (hR : Row S w A e.vs.length cap (e.vs.map verC).flatten) :
    Calls Tryz.prog 194 #[.agg #[.string e.key, .slice A e.vs.length cap], .int .i64 n] w (RetB (.int .i64 (idxI (idxV e.vs n))) w) := by
  refine calls_vc lay_ok Tryz.func194 rfl (by kernel_rfl) (by kernel_rfl) ?_
  intro g1 w1 h1
  have hc := ((Ctx.start w no (fun _ h => h.elim)).loc h1).1
  intro g2 w2 h2
  have hc := (hc.loc h2).1
  refine ⟨_, hc.cell 1 rfl _ rfl, ?_⟩
  refine call_b (indexFuncV_any e.vs n ⟨g2, 0, none⟩ A cap S w2 (hR.below hc.below) (hc.cell 0 rfl _ rfl)) ?_
  intro w3 h3
  exact ⟨rfl, (hc.quiet h3).1.below⟩
def atE (e : Ent) (n : Int) : Ver × Bool := match idxV e.vs n with | none => (Ver0, false) | some i => ((e.vs[i]?).getD Ver0, true)
theorem at_any (e : Ent) (n : Int) (A : Option Addr) (cap : Nat) (S : Nat → Prop) (w : World) (hR : Row S w A e.vs.length cap (e.vs.map verC).flatten) :
    Calls Tryz.prog 147 #[.agg #[.string e.key, .slice A e.vs.length cap], .int .i64 n] w (RetB (.tuple #[.agg (verC (atE e n).1).toArray, .bool (atE e n).2]) w) := by
  refine calls_vc lay_ok Tryz.func147 rfl (by kernel_rfl) (by kernel_rfl) ?_
  intro g1 w1 h1
  have hc := ((Ctx.start w no (fun _ h => h.elim)).loc h1).1
  intro g2 w2 h2
  have hc := (hc.loc h2).1
  refine ⟨_, ?_, hc.cells 1 rfl, ?_⟩
  · rfl
  refine call_b (place_any e n A cap S w2 (hR.below hc.below)) ?_
  intro w3 h3
  have hc := (hc.quiet h3).1
  have hM := row_max hR
  unfold atE
  cases hi : idxV e.vs n with
  | none =>
    repeat (first | (intro gA wA hA; have hc := (hc.loc hA).1) | refine ⟨_, hc.cell 0 rfl _ rfl, ?_⟩ | (refine ⟨_, ?_, hc.cells 0 rfl, ?_⟩; (· rfl)) | (refine ⟨hc.may 0 rfl _ _ (nle rfl) rfl, ?_⟩; intro wA hA; have hc := (hc.set 0 rfl hA).1) | refine ⟨_, hc.cell 1 rfl _ rfl, ?_⟩ | (refine ⟨_, ?_, hc.cells 1 rfl, ?_⟩; (· rfl)) | (refine ⟨hc.may 1 rfl _ _ (nle rfl) rfl, ?_⟩; intro wA hA; have hc := (hc.set 1 rfl hA).1) | refine ⟨_, hc.cell 2 rfl _ rfl, ?_⟩ | (refine ⟨_, ?_, hc.cells 2 rfl, ?_⟩; (· rfl)) | (refine ⟨hc.may 2 rfl _ _ (nle rfl) rfl, ?_⟩; intro wA hA; have hc := (hc.set 2 rfl hA).1) | refine ⟨_, hc.cell 3 rfl _ rfl, ?_⟩ | (refine ⟨_, ?_, hc.cells 3 rfl, ?_⟩; (· rfl)) | (refine ⟨hc.may 3 rfl _ _ (nle rfl) rfl, ?_⟩; intro wA hA; have hc := (hc.set 3 rfl hA).1) | refine ⟨_, hc.cell 4 rfl _ rfl, ?_⟩ | (refine ⟨_, ?_, hc.cells 4 rfl, ?_⟩; (· rfl)) | (refine ⟨hc.may 4 rfl _ _ (nle rfl) rfl, ?_⟩; intro wA hA; have hc := (hc.set 4 rfl hA).1))
    exact ⟨rfl, hc.below⟩
  | some i =>
    obtain ⟨hlt, _⟩ := idxV_lt hi
    refine ⟨_, hc.cell 1 rfl _ rfl, ?_⟩
    obtain ⟨ad, rfl, hcell⟩ := RowV.elem (hR.below hc.below) i hlt
    refine ⟨⟨Int.natCast_nonneg _, Int.ofNat_lt.2 hlt⟩, ?_⟩
    refine ⟨verC e.vs[i], rfl, hcell, ?_⟩
    refine ⟨hc.may 0 rfl 0 _ (Nat.le_refl 3) rfl, ?_⟩
    intro w4 h4
    have hc := (hc.set 0 rfl h4).1
    refine ⟨_, ?_, hc.cells 0 rfl, ?_⟩
    · rfl
    simp only
    rw [List.getElem?_eq_getElem hlt]
    exact ⟨rfl, hc.below⟩
set_option maxRecDepth 100000
theorem tmay_any (e : Ent) (hk : strok e.key) (A : Option Addr) (cap : Nat) (S : Nat → Prop) (w : World) (hR : Row S w A e.vs.length cap (e.vs.map verC).flatten) :
    Calls Tryz.prog 99 #[.agg #[.string e.key, .slice A e.vs.length cap]] w (RetB (.bool (mayE e)) w) := by
  refine calls_vc lay_ok Tryz.func99 rfl (by kernel_rfl) (by kernel_rfl) ?_
  intro g1 w1 h1
  have hc := ((Ctx.start w no (fun _ h => h.elim)).loc h1).1
  refine ⟨_, hc.cell 0 rfl _ rfl, ?_⟩
  have hM := row_max hR
  refine ⟨Nat × Int, fun x => [(1, .pointer (some ⟨g1, 0, none⟩)), (3, .int .i64 x.2), (7, .slice A e.vs.length cap), (8, .int .i64 e.vs.length), (9, .int .i64 x.1)],
    fun x w' => x.1 ≤ e.vs.length ∧ risV x.2 (e.vs.drop x.1) = risV 0 e.vs ∧ Ctx no w no w' [(g1, 50, [.string e.key, .slice A e.vs.length cap])], fun x _ => e.vs.length - x.1, (0, 0),
    ⟨rfl, rfl, rfl, rfl, rfl, trivial⟩, ⟨Nat.zero_le _, rfl, hc⟩, ?_⟩
  rintro ⟨i, last⟩ w' u ⟨hi, he, hc⟩
  simp only at hi he
  by_cases hlt : i < e.vs.length
  · refine split_t (decide_eq_true (by show (i : Int) < (e.vs.length : Int); omega)) ?_
    obtain ⟨ad, rfl, hcell⟩ := RowV.elem (hR.below hc.below) i hlt
    rw [List.drop_eq_getElem_cons hlt, risV] at he
    generalize e.vs[i] = v at *
    refine ⟨⟨by omega, by omega⟩, ?_⟩
    refine ⟨verC v, rfl, hcell, ?_⟩
    intro g5 w5 h5
    have hc := (hc.loc h5).1
    refine ⟨hc.may 0 rfl 0 _ (Nat.le_refl 3) rfl, ?_⟩
    intro w6 h6
    have hc := (hc.set 0 rfl h6).1
    refine ⟨verC v, rfl, hc.cells 0 rfl, ?_⟩
    refine call_b (version_any v _) ?_
    intro w7 h7
    have hc := (hc.quiet h7).1
    have out : (verOk v && decide (last < v.ver)) = false → RetB (.bool (mayE e)) w (.returned (.bool false)) w7 := fun h => ⟨by rw [h] at he; rw [mayE, ← he]; rfl, hc.below⟩
    cases hv : verOk v
    · refine out ?_
      rw [hv]; rfl
    · refine ⟨_, hc.cell 0 rfl _ rfl, ?_⟩
      by_cases hl : last < v.ver
      · refine split_f (decide_eq_false (by show ¬ v.ver ≤ last; omega)) ?_
        refine ⟨_, hc.cell 0 rfl _ rfl, ?_⟩
        refine ⟨(i + 1, v.ver), ⟨rfl, rfl, rfl, rfl, congrArg _ (i_down (by omega)), trivial⟩, ⟨hlt, ?_, hc.drop⟩, by show e.vs.length - (i + 1) < e.vs.length - i; omega⟩
        rw [← he, hv, decide_eq_true hl]
        rfl
      · refine split_t (decide_eq_true (by show v.ver ≤ last; omega)) ?_
        refine out ?_
        rw [decide_eq_false hl, Bool.and_false]
  · refine split_f (decide_eq_false (by show ¬ (i : Int) < (e.vs.length : Int); omega)) ?_
    rw [List.drop_of_length_le (by omega), risV] at he
    have em : mayE e = (keyB e.key && decide (1 ≤ e.vs.length) && decide (e.vs.length ≤ 12)) := by rw [mayE, ← he]; rfl
    rw [em]
    refine ⟨_, hc.cell 0 rfl _ rfl, ?_⟩
    refine call_b (key_any e.key hk _) ?_
    intro w3 h3
    have hc := (hc.quiet h3).1
    cases hkk : keyB e.key
    · exact ⟨rfl, hc.below⟩
    refine ⟨_, hc.cell 0 rfl _ rfl, ?_⟩
    by_cases h1 : 1 ≤ e.vs.length
    · refine split_t (decide_eq_true (by show (1 : Int) ≤ (e.vs.length : Int); omega)) ?_
      refine ⟨_, hc.cell 0 rfl _ rfl, ?_⟩
      refine ⟨ret_bool ?_, hc.below⟩
      rw [decide_eq_true h1, Bool.true_and, Bool.true_and]
      by_cases h12 : e.vs.length ≤ 12
      · rw [decide_eq_true h12]; exact decide_eq_true (by omega)
      · rw [decide_eq_false h12]; exact decide_eq_false (by omega)
    · refine split_f (decide_eq_false (by show ¬ (1 : Int) ≤ (e.vs.length : Int); omega)) ?_
      refine ⟨ret_bool ?_, hc.below⟩
      rw [decide_eq_false h1]
      rfl
set_option maxRecDepth 100000
def RetO (e sz n : Nat) (xs : List Value) (w : World) (en : Ending) (w' : World) : Prop := ∃ A cap, en = .returned (.slice A n cap) ∧ Below w.heap.size w w' ∧ w'.ownsRow w.heap.size e sz (.slice A n cap) n xs
theorem Row.cut {S : Nat → Prop} {w : World} {A : Option Addr} {n cap k : Nat} {css : List (List Value)} (hR : Row S w A n cap css.flatten) (hF : Flat k css) (hk : 0 < k) (hn : css.length = n) (hA : A = none) : n = 0 ∧ css.flatten = [] := by
  subst hA
  rcases Nat.eq_zero_or_pos n with h | h
  · refine ⟨h, List.eq_nil_of_length_eq_zero ?_⟩
    rw [hF.len, hn, h, Nat.zero_mul]
  · obtain ⟨ad, e, _⟩ := Row.elemF hR hk hF 0 (by omega)
    cases e
theorem info_V : (Tryz.prog.info? 52).map (fun i => (i.zero, i.size, i.bytes)) = some (some (.agg #[.int .i64 0, .bool false, .string ⟨#[]⟩]), 3, 32) := by kernel_rfl
theorem slnil_V (a : Option Addr) (n c : Nat) (ox oy : Operand) (w : World) : (do eqGuard .eql 48 ox oy (.slice a n c) (.slice none 0 0); Go.binOp .eql 48 (.slice a n c) (.slice none 0 0) : Sem Value).run Tryz.prog w = .ok (.bool a.isNone) w := by
  have h := Lib.run_eql_slice_nil (P := Tryz.prog) w 48 52 a n c 0 0 Tryz.underlying48
  simp only [eqGuard]
  simpa using h
theorem cloneV_any (A : Option Addr) (n cap : Nat) (css : List (List Value)) (hF : Flat 3 css) (hn : css.length = n) (hb : n ≤ 1000000) (S : Nat → Prop) (w : World) (hR : Row S w A n cap css.flatten) :
    Calls Tryz.prog 89 #[.slice A n cap] w (RetO 52 3 n css.flatten w) := by
  refine calls_vc lay_ok Tryz.func89 rfl (by kernel_rfl) (by kernel_rfl) ?_
  refine ⟨_, fun w => slnil_V A n cap _ _ w, ?_⟩
  cases A with
  | none =>
    obtain ⟨h0, h1⟩ := Row.cut hR hF (by decide) hn rfl
    subst h0
    rw [h1]
    exact ⟨none, 0, rfl, Below.refl _ _, World.ownsRow_nil _ _ _ _⟩
  | some ad =>
    intro g w1 h1
    have hc := Ctx.start w no (fun _ h => h.elim)
    obtain ⟨hc, hf, ho⟩ := Own.made hc h1 3 0 rfl (Nat.zero_le _)
    refine app_row Tryz.underlying48 info_V rfl (by decide) hc ho (hR.below h1.below) (by rw [hF.len, hn]) hF.ones (by omega) (by decide) ?_
    intro A' cap' w2 hc hf ho _
    rw [Nat.zero_add] at ho ⊢
    rw [List.nil_append] at ho
    exact ⟨A', cap', rfl, hc.below, ho.row⟩
theorem deleteV_any {S0 S : Nat → Prop} {w0 w : World} {l : List LB} (hc : Ctx S0 w0 S w l) (css : List (List Value)) (hF : Flat 3 css) {A : Option Addr} {cap : Nat} (ho : Own S w0.heap.size w l 52 3 A css.length cap css.flatten) (i : Nat) (hi : i < css.length) (j : Int) (hj : j = i + 1) :
    Calls Tryz.prog 230 #[.slice A css.length cap, .int .i64 i, .int .i64 j] w (fun en w' => ∃ A', en = .returned (.slice A' (css.length - 1) cap) ∧ Ctx S0 w0 S w' l ∧ Fut S w S w' ∧ Own S w0.heap.size w' l 52 3 A' (css.length - 1) cap (css.take i ++ css.drop (i + 1)).flatten) := by
  cases hA : A with
  | none =>
    obtain ⟨h0, _⟩ := ho.none' hA
    omega
  | some a =>
  obtain ⟨g, cur, e1, hc, hcl, hct, hnc, hcm⟩ := ho.opened hc hA
  rw [hA] at e1
  cases e1
  have hM : cap ≤ 9223372036854775807 := Nat.le_trans hcm (by decide)
  generalize hn : css.length = n at *
  refine calls_vc lay_ok Tryz.func230 rfl (by kernel_rfl) (by kernel_rfl) ?_
  refine ⟨⟨by omega, by omega, by omega, by omega⟩, ?_⟩
  refine split_f (by show ((i : Int) == j) = false; rw [beq_eq_false_iff_ne]; omega) ?_
  refine drawn lay_ok (by kernel_rfl) (.q 0 (.q 1 (.q 2 (.q 3 (.q 4 (.q 5 (.n 6 (.q 7 .fin) .stop))))))) (fun _ => True) (by kernel_rfl) trivial ?_
  have hc := hc.drew
  refine ⟨⟨by omega, by omega, by omega, by omega⟩, ?_⟩
  refine ⟨⟨by omega, by omega, by omega, by omega⟩, ?_⟩
  refine ⟨?_, trivial⟩
  have hjn : j.toNat = i + 1 := by omega
  have hyl : ((css.drop (i + 1)).flatten).length = (n - (i + 1)) * 3 := by rw [(hF.drop _).len, List.length_drop, hn]
  have hcd : (cur.drop ((i + 1) * 3)).take ((css.drop (i + 1)).flatten).length = (css.drop (i + 1)).flatten := by
    rw [hF.flat_drop, ← hct, List.drop_take, List.length_take, List.length_drop, hcl]
    congr 1
    omega
  have hcells : ∀ ad : Addr, ad = (if (cap : Int) = j then (⟨g, 0, none⟩ : Addr) else (⟨g, 0, none⟩ : Addr).add (j.toNat * 3)) → Go.Vc.cellsAt w.drew ad (css.drop (i + 1)).flatten 0 := by
    intro ad had
    by_cases hcj : (cap : Int) = j
    · have : (css.drop (i + 1)).flatten = [] := List.eq_nil_of_length_eq_zero (by rw [hyl]; omega)
      rw [this]; trivial
    · rw [if_neg hcj, Addr.add_lit, Nat.zero_add, hjn] at had
      rw [had]
      exact hc.cellsAt 0 rfl _ _ hcd
  refine app_room Tryz.underlying48 info_V hc hcl (n := i) (m := n - (i + 1)) (c := ((cap : Int) - j).toNat) (by omega) hyl (hcells _ rfl) (hF.drop _).ones ?_ ?_ ?_
  · have e0 : (if (cap : Int) = 0 then some (⟨g, 0, none⟩ : Addr) else (some (⟨g, 0, none⟩ : Addr)).map (·.add ((0 : Int).toNat * 3))) = some ⟨g, 0, none⟩ := by split <;> rfl
    show Value.slice (if (cap : Int) = 0 then some (⟨g, 0, none⟩ : Addr) else (some (⟨g, 0, none⟩ : Addr)).map (·.add ((0 : Int).toNat * 3))) ((i : Int) - 0).toNat ((cap : Int) - 0).toNat = _
    rw [e0]
    congr 1 <;> omega
  · show Value.slice (if (cap : Int) = j then some (⟨g, 0, none⟩ : Addr) else (some (⟨g, 0, none⟩ : Addr)).map (·.add (j.toNat * 3))) ((n : Int) - j).toNat ((cap : Int) - j).toNat = _
    have e0 : (if (cap : Int) = j then some (⟨g, 0, none⟩ : Addr) else (some (⟨g, 0, none⟩ : Addr)).map (·.add (j.toNat * 3))) = some (if (cap : Int) = j then (⟨g, 0, none⟩ : Addr) else (⟨g, 0, none⟩ : Addr).add (j.toNat * 3)) := by split <;> rfl
    rw [e0]
    congr 1
    omega
  intro w2 hc hf2
  refine ⟨trivial, ?_⟩
  have hn1 : i + (n - (i + 1)) = n - 1 := by omega
  rw [hn1]
  have hcur2 : (cur.take (i * 3) ++ (css.drop (i + 1)).flatten ++ cur.drop ((i + (n - (i + 1))) * 3)).length = cap * 3 := by
    rw [List.length_append, List.length_append, List.length_take, List.length_drop, hyl, hcl]
    omega
  have htk2 : (cur.take (i * 3) ++ (css.drop (i + 1)).flatten ++ cur.drop ((i + (n - (i + 1))) * 3)).take ((n - 1) * 3) = (css.take i ++ css.drop (i + 1)).flatten := by
    have e1 : (cur.take (i * 3) ++ (css.drop (i + 1)).flatten).length = (n - 1) * 3 := by rw [List.length_append, List.length_take, hyl, hcl]; omega
    rw [List.take_left' e1, List.flatten_append, hF.flat_take, ← hct, List.take_take]
    congr 2
    omega
  generalize cur.take (i * 3) ++ (css.drop (i + 1)).flatten ++ cur.drop ((i + (n - (i + 1))) * 3) = cur2 at *
  refine ⟨⟨by omega, by omega, by omega, by omega⟩, ?_⟩
  refine clear_run Tryz.underlying48 (z := .agg #[.int .i64 0, .bool false, .string ⟨#[]⟩]) (fun w => by kernel_rfl) (a := ⟨g, (n - 1) * 3, none⟩) (n := 1) (c := cap - (n - 1)) (by decide) ?_ (zs := [.int .i64 0, .bool false, .string ⟨#[]⟩]) (by kernel_rfl) (hc.may 0 rfl ((n - 1) * 3) [.int .i64 0, .bool false, .string ⟨#[]⟩] (by rw [hcur2]; show (n - 1) * 3 + 3 ≤ _; omega) rfl) ?_
  · show Value.slice (if (cap : Int) = ((n - 1 : Nat) : Int) then some (⟨g, 0, none⟩ : Addr) else (some (⟨g, 0, none⟩ : Addr)).map (·.add (((n - 1 : Nat) : Int).toNat * 3))) ((n : Int) - ((n - 1 : Nat) : Int)).toNat ((cap : Int) - ((n - 1 : Nat) : Int)).toNat = _
    rw [if_neg (by omega), Option.map_some, Addr.add_lit, Nat.zero_add, Int.toNat_natCast]
    congr 1 <;> omega
  intro w3 h3
  have hC := hc.set 0 rfl h3
  have hc := hC.1
  have hlen3 : (putAt cur2 ((n - 1) * 3) [.int .i64 0, .bool false, .string ⟨#[]⟩]).length = cap * 3 := by rw [putAt_len, hcur2]
  obtain ⟨hc, ho⟩ := Ctx.closed hc 3 (n - 1) cap (by omega) hcm hlen3
  refine ⟨some ⟨g, 0, none⟩, rfl, hc, hf2.trans hC.2, ?_⟩
  rw [← htk2]
  have e3 : (putAt cur2 ((n - 1) * 3) [.int .i64 0, .bool false, .string ⟨#[]⟩]).take ((n - 1) * 3) = cur2.take ((n - 1) * 3) := by
    rw [putAt_eq _ _ _ (by rw [hcur2]; show (n - 1) * 3 + 3 ≤ _; omega), List.append_assoc, List.take_left' (by rw [List.length_take, hcur2]; omega)]
  rw [← e3]
  exact ho
theorem info_E : (Tryz.prog.info? 50).map (fun i => (i.zero, i.size, i.bytes)) = some (some (.agg #[.string ⟨#[]⟩, .slice none 0 0]), 2, 40) := by kernel_rfl
theorem slnil_E (a : Option Addr) (n c : Nat) (ox oy : Operand) (w : World) : (do eqGuard .eql 39 ox oy (.slice a n c) (.slice none 0 0); Go.binOp .eql 39 (.slice a n c) (.slice none 0 0) : Sem Value).run Tryz.prog w = .ok (.bool a.isNone) w := by
  have h := Lib.run_eql_slice_nil (P := Tryz.prog) w 39 50 a n c 0 0 Tryz.underlying39
  simp only [eqGuard]
  simpa using h
theorem cloneE_any (A : Option Addr) (n cap : Nat) (css : List (List Value)) (hF : Flat 2 css) (hn : css.length = n) (hb : n ≤ 1000000) (S : Nat → Prop) (w : World) (hR : Row S w A n cap css.flatten) :
    Calls Tryz.prog 87 #[.slice A n cap] w (RetO 50 2 n css.flatten w) := by
  refine calls_vc lay_ok Tryz.func87 rfl (by kernel_rfl) (by kernel_rfl) ?_
  refine ⟨_, fun w => slnil_E A n cap _ _ w, ?_⟩
  cases A with
  | none =>
    obtain ⟨h0, h1⟩ := Row.cut hR hF (by decide) hn rfl
    subst h0
    rw [h1]
    exact ⟨none, 0, rfl, Below.refl _ _, World.ownsRow_nil _ _ _ _⟩
  | some ad =>
    intro g w1 h1
    have hc := Ctx.start w no (fun _ h => h.elim)
    obtain ⟨hc, hf, ho⟩ := Own.made hc h1 2 0 rfl (Nat.zero_le _)
    refine app_row Tryz.underlying39 info_E rfl (by decide) hc ho (hR.below h1.below) (by rw [hF.len, hn]) hF.ones (by omega) (by decide) ?_
    intro A' cap' w2 hc hf ho _
    rw [Nat.zero_add] at ho ⊢
    rw [List.nil_append] at ho
    exact ⟨A', cap', rfl, hc.below, ho.row⟩
theorem deleteE_any {S0 S : Nat → Prop} {w0 w : World} {l : List LB} (hc : Ctx S0 w0 S w l) (css : List (List Value)) (hF : Flat 2 css) {A : Option Addr} {cap : Nat} (ho : Own S w0.heap.size w l 50 2 A css.length cap css.flatten) (i : Nat) (hi : i < css.length) (j : Int) (hj : j = i + 1) :
    Calls Tryz.prog 211 #[.slice A css.length cap, .int .i64 i, .int .i64 j] w (fun en w' => ∃ A', en = .returned (.slice A' (css.length - 1) cap) ∧ Ctx S0 w0 S w' l ∧ Fut S w S w' ∧ Own S w0.heap.size w' l 50 2 A' (css.length - 1) cap (css.take i ++ css.drop (i + 1)).flatten) := by
  cases hA : A with
  | none =>
    obtain ⟨h0, _⟩ := ho.none' hA
    omega
  | some a =>
  obtain ⟨g, cur, e1, hc, hcl, hct, hnc, hcm⟩ := ho.opened hc hA
  rw [hA] at e1
  cases e1
  have hM : cap ≤ 9223372036854775807 := Nat.le_trans hcm (by decide)
  generalize hn : css.length = n at *
  refine calls_vc lay_ok Tryz.func211 rfl (by kernel_rfl) (by kernel_rfl) ?_
  refine ⟨⟨by omega, by omega, by omega, by omega⟩, ?_⟩
  refine split_f (by show ((i : Int) == j) = false; rw [beq_eq_false_iff_ne]; omega) ?_
  refine drawn lay_ok (by kernel_rfl) (.q 0 (.q 1 (.q 2 (.q 3 (.q 4 (.q 5 (.n 6 (.q 7 .fin) .stop))))))) (fun _ => True) (by kernel_rfl) trivial ?_
  have hc := hc.drew
  refine ⟨⟨by omega, by omega, by omega, by omega⟩, ?_⟩
  refine ⟨⟨by omega, by omega, by omega, by omega⟩, ?_⟩
  refine ⟨?_, trivial⟩
  have hjn : j.toNat = i + 1 := by omega
  have hyl : ((css.drop (i + 1)).flatten).length = (n - (i + 1)) * 2 := by rw [(hF.drop _).len, List.length_drop, hn]
  have hcd : (cur.drop ((i + 1) * 2)).take ((css.drop (i + 1)).flatten).length = (css.drop (i + 1)).flatten := by
    rw [hF.flat_drop, ← hct, List.drop_take, List.length_take, List.length_drop, hcl]
    congr 1
    omega
  have hcells : ∀ ad : Addr, ad = (if (cap : Int) = j then (⟨g, 0, none⟩ : Addr) else (⟨g, 0, none⟩ : Addr).add (j.toNat * 2)) → Go.Vc.cellsAt w.drew ad (css.drop (i + 1)).flatten 0 := by
    intro ad had
    by_cases hcj : (cap : Int) = j
    · have : (css.drop (i + 1)).flatten = [] := List.eq_nil_of_length_eq_zero (by rw [hyl]; omega)
      rw [this]; trivial
    · rw [if_neg hcj, Addr.add_lit, Nat.zero_add, hjn] at had
      rw [had]
      exact hc.cellsAt 0 rfl _ _ hcd
  refine app_room Tryz.underlying39 info_E hc hcl (n := i) (m := n - (i + 1)) (c := ((cap : Int) - j).toNat) (by omega) hyl (hcells _ rfl) (hF.drop _).ones ?_ ?_ ?_
  · have e0 : (if (cap : Int) = 0 then some (⟨g, 0, none⟩ : Addr) else (some (⟨g, 0, none⟩ : Addr)).map (·.add ((0 : Int).toNat * 2))) = some ⟨g, 0, none⟩ := by split <;> rfl
    show Value.slice (if (cap : Int) = 0 then some (⟨g, 0, none⟩ : Addr) else (some (⟨g, 0, none⟩ : Addr)).map (·.add ((0 : Int).toNat * 2))) ((i : Int) - 0).toNat ((cap : Int) - 0).toNat = _
    rw [e0]
    congr 1 <;> omega
  · show Value.slice (if (cap : Int) = j then some (⟨g, 0, none⟩ : Addr) else (some (⟨g, 0, none⟩ : Addr)).map (·.add (j.toNat * 2))) ((n : Int) - j).toNat ((cap : Int) - j).toNat = _
    have e0 : (if (cap : Int) = j then some (⟨g, 0, none⟩ : Addr) else (some (⟨g, 0, none⟩ : Addr)).map (·.add (j.toNat * 2))) = some (if (cap : Int) = j then (⟨g, 0, none⟩ : Addr) else (⟨g, 0, none⟩ : Addr).add (j.toNat * 2)) := by split <;> rfl
    rw [e0]
    congr 1
    omega
  intro w2 hc hf2
  refine ⟨trivial, ?_⟩
  have hn1 : i + (n - (i + 1)) = n - 1 := by omega
  rw [hn1]
  have hcur2 : (cur.take (i * 2) ++ (css.drop (i + 1)).flatten ++ cur.drop ((i + (n - (i + 1))) * 2)).length = cap * 2 := by
    rw [List.length_append, List.length_append, List.length_take, List.length_drop, hyl, hcl]
    omega
  have htk2 : (cur.take (i * 2) ++ (css.drop (i + 1)).flatten ++ cur.drop ((i + (n - (i + 1))) * 2)).take ((n - 1) * 2) = (css.take i ++ css.drop (i + 1)).flatten := by
    have e1 : (cur.take (i * 2) ++ (css.drop (i + 1)).flatten).length = (n - 1) * 2 := by rw [List.length_append, List.length_take, hyl, hcl]; omega
    rw [List.take_left' e1, List.flatten_append, hF.flat_take, ← hct, List.take_take]
    congr 2
    omega
  generalize cur.take (i * 2) ++ (css.drop (i + 1)).flatten ++ cur.drop ((i + (n - (i + 1))) * 2) = cur2 at *
  refine ⟨⟨by omega, by omega, by omega, by omega⟩, ?_⟩
  refine clear_run Tryz.underlying39 (z := .agg #[.string ⟨#[]⟩, .slice none 0 0]) (fun w => by kernel_rfl) (a := ⟨g, (n - 1) * 2, none⟩) (n := 1) (c := cap - (n - 1)) (by decide) ?_ (zs := [.string ⟨#[]⟩, .slice none 0 0]) (by kernel_rfl) (hc.may 0 rfl ((n - 1) * 2) [.string ⟨#[]⟩, .slice none 0 0] (by rw [hcur2]; show (n - 1) * 2 + 2 ≤ _; omega) rfl) ?_
  · show Value.slice (if (cap : Int) = ((n - 1 : Nat) : Int) then some (⟨g, 0, none⟩ : Addr) else (some (⟨g, 0, none⟩ : Addr)).map (·.add (((n - 1 : Nat) : Int).toNat * 2))) ((n : Int) - ((n - 1 : Nat) : Int)).toNat ((cap : Int) - ((n - 1 : Nat) : Int)).toNat = _
    rw [if_neg (by omega), Option.map_some, Addr.add_lit, Nat.zero_add, Int.toNat_natCast]
    congr 1 <;> omega
  intro w3 h3
  have hC := hc.set 0 rfl h3
  have hc := hC.1
  have hlen3 : (putAt cur2 ((n - 1) * 2) [.string ⟨#[]⟩, .slice none 0 0]).length = cap * 2 := by rw [putAt_len, hcur2]
  obtain ⟨hc, ho⟩ := Ctx.closed hc 2 (n - 1) cap (by omega) hcm hlen3
  refine ⟨some ⟨g, 0, none⟩, rfl, hc, hf2.trans hC.2, ?_⟩
  rw [← htk2]
  have e3 : (putAt cur2 ((n - 1) * 2) [.string ⟨#[]⟩, .slice none 0 0]).take ((n - 1) * 2) = cur2.take ((n - 1) * 2) := by
    rw [putAt_eq _ _ _ (by rw [hcur2]; show (n - 1) * 2 + 2 ≤ _; omega), List.append_assoc, List.take_left' (by rw [List.length_take, hcur2]; omega)]
  rw [← e3]
  exact ho
theorem info_M : (Tryz.prog.info? 56).map (fun i => (i.zero, i.size, i.bytes)) = some (some (.agg #[.int .i64 0, .int .i64 0, .int .i64 0]), 3, 24) := by kernel_rfl
theorem slnil_M (a : Option Addr) (n c : Nat) (ox oy : Operand) (w : World) : (do eqGuard .eql 40 ox oy (.slice a n c) (.slice none 0 0); Go.binOp .eql 40 (.slice a n c) (.slice none 0 0) : Sem Value).run Tryz.prog w = .ok (.bool a.isNone) w := by
  have h := Lib.run_eql_slice_nil (P := Tryz.prog) w 40 56 a n c 0 0 Tryz.underlying40
  simp only [eqGuard]
  simpa using h
theorem cloneM_any (A : Option Addr) (n cap : Nat) (css : List (List Value)) (hF : Flat 3 css) (hn : css.length = n) (hb : n ≤ 1000000) (S : Nat → Prop) (w : World) (hR : Row S w A n cap css.flatten) :
    Calls Tryz.prog 88 #[.slice A n cap] w (RetO 56 3 n css.flatten w) := by
  refine calls_vc lay_ok Tryz.func88 rfl (by kernel_rfl) (by kernel_rfl) ?_
  refine ⟨_, fun w => slnil_M A n cap _ _ w, ?_⟩
  cases A with
  | none =>
    obtain ⟨h0, h1⟩ := Row.cut hR hF (by decide) hn rfl
    subst h0
    rw [h1]
    exact ⟨none, 0, rfl, Below.refl _ _, World.ownsRow_nil _ _ _ _⟩
  | some ad =>
    intro g w1 h1
    have hc := Ctx.start w no (fun _ h => h.elim)
    obtain ⟨hc, hf, ho⟩ := Own.made hc h1 3 0 rfl (Nat.zero_le _)
    refine app_row Tryz.underlying40 info_M rfl (by decide) hc ho (hR.below h1.below) (by rw [hF.len, hn]) hF.ones (by omega) (by decide) ?_
    intro A' cap' w2 hc hf ho _
    rw [Nat.zero_add] at ho ⊢
    rw [List.nil_append] at ho
    exact ⟨A', cap', rfl, hc.below, ho.row⟩
end Go.Proofs.YtokglimimnelaaaGreatDoor
