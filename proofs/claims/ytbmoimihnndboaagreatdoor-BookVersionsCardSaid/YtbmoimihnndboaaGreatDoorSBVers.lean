import Derived.Test.YtbmoimihnndboaaGreatDoorSMaps
set_option linter.unusedVariables false
set_option linter.unusedSimpArgs false
/- Walk: armariumlaw5.BookVersions. -/
namespace Go.Proofs.YtbmoimihnndboaaGreatDoor
open Go.Vc Go.RowKit Go.Fl Go.ChangeShapes Go.WideShapes Go.ChangeAt
/-! The versions that are there, by their numbers. -/
def alV : List Ver → Int → Option ByteArray
  | [], _ => none
  | v :: r, x => if v.ver == x then some v.body else alV r x
theorem alV_snoc (v : Ver) : ∀ (l : List Ver), (∀ u ∈ l, u.ver ≠ v.ver) → ∀ x, alV (l ++ [v]) x = if x = v.ver then some v.body else alV l x
  | [], _, x => by
    show (if v.ver == x then some v.body else none) = _
    by_cases h : x = v.ver
    · rw [if_pos h, if_pos (by rw [beq_iff_eq]; exact h.symm)]
    · rw [if_neg h, if_neg (by rw [beq_iff_eq]; exact fun e => h e.symm)]
      rfl
  | u :: r, hu, x => by
    show (if u.ver == x then some u.body else alV (r ++ [v]) x) = _
    rw [alV_snoc v r (fun y hy => hu y (List.mem_cons_of_mem _ hy)) x]
    have h0 := hu u (List.mem_cons_self ..)
    by_cases h1 : u.ver = x
    · rw [if_pos (by rw [beq_iff_eq]; exact h1), if_neg (fun h => h0 (h1.trans h))]
      show _ = (if u.ver == x then some u.body else alV r x)
      rw [if_pos (by rw [beq_iff_eq]; exact h1)]
    · rw [if_neg (by rw [beq_iff_eq]; exact h1)]
      show _ = if x = v.ver then some v.body else (if u.ver == x then some u.body else alV r x)
      rw [if_neg (c := (u.ver == x) = true) (by rw [beq_iff_eq]; exact h1)]
theorem alV_idx : ∀ (l : List Ver) (x : Int), alV l x = ((idxV l x).bind fun i => l[i]?).map (·.body)
  | [], x => rfl
  | v :: r, x => by
    show (if v.ver == x then some v.body else alV r x) = (((if v.ver == x then some 0 else (idxV r x).map (· + 1)) : Option Nat).bind fun i => (v :: r)[i]?).map (·.body)
    split
    · rfl
    · rw [alV_idx r x]
      cases idxV r x <;> rfl
theorem alV_none {l : List Ver} {x : Int} (h : ∀ v ∈ l, v.ver ≠ x) : alV l x = none := by
  induction l with
  | nil => rfl
  | cons v r ih =>
    show (if v.ver == x then some v.body else alV r x) = none
    rw [if_neg (by rw [beq_iff_eq]; exact h v (List.mem_cons_self ..)), ih fun u hu => h u (List.mem_cons_of_mem _ hu)]
theorem alV_del : ∀ (l : List Ver) (x : Int) (i : Nat), l.Pairwise (fun a b => a.ver < b.ver) → idxV l x = some i → ∀ y, alV (l.take i ++ l.drop (i + 1)) y = if y = x then none else alV l y
  | [], x, i, _, h, y => by cases h
  | v :: r, x, i, hp, h, y => by
    rw [List.pairwise_cons] at hp
    have h' : (if v.ver == x then some 0 else (idxV r x).map (· + 1)) = some i := h
    by_cases hv : v.ver = x
    · rw [if_pos (by rw [beq_iff_eq]; exact hv)] at h'
      cases h'
      show alV r y = if y = x then none else (if v.ver == y then some v.body else alV r y)
      by_cases hy : y = x
      · rw [if_pos hy, alV_none fun u hu => by have := hp.1 u hu; omega]
      · rw [if_neg hy, if_neg (by rw [beq_iff_eq]; omega)]
    · rw [if_neg (by rw [beq_iff_eq]; exact hv)] at h'
      obtain ⟨j, hj, rfl⟩ := Option.map_eq_some_iff.1 h'
      show (if v.ver == y then some v.body else alV (r.take j ++ r.drop (j + 1)) y) = if y = x then none else (if v.ver == y then some v.body else alV r y)
      rw [alV_del r x j hp.2 hj y]
      by_cases hy : y = x
      · rw [if_pos hy, if_pos hy, if_neg (by rw [beq_iff_eq]; omega)]
      · rw [if_neg hy, if_neg hy]
/-! The book of one key. -/
def kB' : ByteArray := ⟨#[107]⟩
structure VI (p q : Nat) (s : Stt) (vs : List Ver) (order : List Int) : Prop where
  may : mayS s = true
  lows : s.lows = [0, 0, 0, 0, 0]
  seq : s.seq ≤ (p : Int) + q
  l : s.l = if vs = [] then [] else [⟨⟨#[107]⟩, vs⟩]
  gone : ∀ v ∈ vs, v.gone = false
  sorted : vs.Pairwise (fun a b => a.ver < b.ver)
  le : ∀ v ∈ vs, v.ver ≤ s.seq
  len : vs.length ≤ p
  ms : s.ms.length ≤ p + q
  mr : ∀ m ∈ s.ms, (m.req ≤ 4294967296 + p ∨ 4294967396 ≤ m.req) ∧ m.req < 4294967396 + q
  ord : ∀ x ∈ order, 1 ≤ x ∧ x ≤ s.seq
  olen : order.length = p
theorem VI0 : VI 0 0 Stt0 [] [] := ⟨mayStt0, rfl, Int.le_refl _, rfl, (fun v h => by cases h), List.Pairwise.nil, (fun v h => by cases h), Nat.le_refl _, Nat.le_refl _, (fun m h => by cases h), (fun x h => by cases h), rfl⟩
theorem ent_l (vs : List Ver) : entAt (if vs = [] then [] else [⟨⟨#[107]⟩, vs⟩]) ⟨#[107]⟩ = if vs = [] then none else some ⟨⟨#[107]⟩, vs⟩ := by
  by_cases h : vs = []
  · rw [if_pos h, if_pos h]
    rfl
  · rw [if_neg h, if_neg h]
    kernel_rfl
theorem put_l (vs : List Ver) (es : List Ent) : putK (if vs = [] then [] else [⟨⟨#[107]⟩, vs⟩]) ⟨#[107]⟩ (if vs = [] then none else some (⟨⟨#[107]⟩, vs⟩ : Ent)).isSome es = es := by
  by_cases h : vs = []
  · rw [if_pos h, if_pos h]
    show [] ++ es ++ [] = es
    simp
  · rw [if_neg h, if_neg h]
    have e : posK [(⟨⟨#[107]⟩, vs⟩ : Ent)] ⟨#[107]⟩ = 0 := by kernel_rfl
    unfold putK
    rw [e]
    show [] ++ es ++ [] = es
    simp
theorem get_l {p q : Nat} {s : Stt} {vs : List Ver} {order : List Int} (h : VI p q s vs order) {x : Int} (hx : 1 ≤ x) : (∀ b, alV vs x = some b → (getS s ⟨#[107]⟩ x).2 = 0 ∧ (getS s ⟨#[107]⟩ x).1.body = b) ∧ (alV vs x = none → (getS s ⟨#[107]⟩ x).2 = 6) := by
  have hsk : SortK s.l := risE_sort (mayS_parts.1 h.may).2.2.1
  rw [getS_at hsk, h.l, ent_l, alV_idx]
  by_cases h0 : vs = []
  · subst h0
    exact ⟨(fun b hb => by cases hb), fun _ => rfl⟩
  rw [if_neg h0]
  show (∀ b, _ → (getE (some ⟨_, vs⟩) x).2 = 0 ∧ _) ∧ _
  unfold getE
  simp only [if_neg (show x ≠ 0 by omega)]
  cases hi : idxV vs x with
  | none => exact ⟨(fun b hb => by cases hb), fun _ => rfl⟩
  | some j =>
    obtain ⟨hj, hv⟩ := idxV_lt hi
    have hg := h.gone _ (List.getElem_mem hj)
    simp only [Option.bind_some, List.getElem?_eq_getElem hj, Option.map_some, hg]
    exact ⟨fun b hb => ⟨rfl, Option.some.inj hb⟩, fun hb => by cases hb⟩
theorem home_b1 {n : Int} (h : 4294967297 ≤ n ∧ n ≤ 4294967500) : homeI n = 1 := by
  unfold homeI
  rw [if_neg (by omega)]
  omega
theorem mem_none {l : List Mem} {n : Int} (h : ∀ m ∈ l, m.req ≠ n) : memAt l n = none := by
  unfold memAt
  cases e : l[posM l n]? with
  | none => rfl
  | some m =>
    simp only
    rw [if_neg]
    rw [beq_iff_eq]
    exact h m (List.mem_of_getElem? e)
theorem doF_new {s : Stt} {d : D} (hl : s.lows = [0, 0, 0, 0, 0]) (hd : 4294967297 ≤ d.req ∧ d.req ≤ 4294967500) (h0 : d.low = 0) (hm : ∀ m ∈ s.ms, m.req ≠ d.req) (hn : s.ms.length < 100) :
    ∃ ms, doF s d = (⟨s.seq + 1, (doK s.l (s.seq + 1) d).1, ms, s.lows⟩, (doK s.l (s.seq + 1) d).2) ∧ ms.length = s.ms.length + 1 ∧ ∀ m, m ∈ ms → m.req = d.req ∨ m ∈ s.ms := by
  have hh := home_b1 hd
  have hlow : lowAt s.lows (homeI d.req) = 0 := by rw [hl, hh]; rfl
  refine ⟨s.ms.take (posM s.ms d.req) ++ ⟨d.req, (doK s.l (s.seq + 1) d).2⟩ :: s.ms.drop (posM s.ms d.req), ?_, ?_, fun m h => ?_⟩
  · unfold doF
    rw [hlow, if_neg (by omega), mem_none hm]
    simp only
    rw [if_neg (by omega), if_neg (by omega)]
  · have := posM_le s.ms d.req
    rw [List.length_append, List.length_take, List.length_cons, List.length_drop]
    omega
  · rw [mem_ins] at h
    rcases h with rfl | h
    · exact .inl rfl
    · exact .inr h
theorem vD (n : Int) (hn : 1 ≤ n ∧ n ≤ 100) {b : ByteArray} (hb : b.size ≤ 60) : mayD (putDeed ⟨#[107]⟩ b n) = true := by
  have hh : homeI (4294967296 + n) = 1 := home_b1 ⟨by omega, by omega⟩
  have k1 : keyB ⟨#[107]⟩ = true := by kernel_rfl
  have k2 : tagB ⟨#[]⟩ = false := by kernel_rfl
  have k3 : mt ⟨#[]⟩ = true := by kernel_rfl
  have e1 : ¬ 4294967296 + n < 0 := by omega
  have e2 : (b.size : Int) ≤ 300 := by omega
  unfold mayD putDeed
  simp [hh, k1, k2, k3, e1, e2]
def prD (x : Int) (q : Nat) : D := ⟨3, ⟨#[107]⟩, ⟨#[]⟩, x, 0, ⟨#[]⟩, 4294967396 + (q : Int), 0⟩
theorem prD_may (x : Int) (hx : 1 ≤ x ∧ x ≤ 1000) (q : Nat) (hq : q ≤ 100) : mayD (prD x q) = true := by
  have hh : homeI (4294967396 + (q : Int)) = 1 := home_b1 ⟨by omega, by omega⟩
  have k1 : keyB ⟨#[107]⟩ = true := by kernel_rfl
  have k3 : mt ⟨#[]⟩ = true := by kernel_rfl
  have e1 : ¬ 4294967396 + (q : Int) < 0 := by omega
  have e2 : x ≤ 1099511627776 := by omega
  unfold mayD prD
  simp [hh, k1, k3, e1, e2, hx.1]
theorem ent_get (vs : List Ver) : (if vs = [] then none else some (⟨⟨#[107]⟩, vs⟩ : Ent)).getD ⟨⟨#[107]⟩, []⟩ = ⟨⟨#[107]⟩, vs⟩ := by
  by_cases h : vs = []
  · rw [if_pos h, h]
    rfl
  · rw [if_neg h]
    rfl
theorem len_l (vs : List Ver) : (if vs = [] then [] else [(⟨⟨#[107]⟩, vs⟩ : Ent)]).length ≤ 1 := by split <;> simp
theorem doK_put (vs : List Ver) (h : vs.length < 12) (seq n : Int) (b : ByteArray) : doK (if vs = [] then [] else [⟨⟨#[107]⟩, vs⟩]) seq (putDeed ⟨#[107]⟩ b n) = ([⟨⟨#[107]⟩, vs ++ [⟨seq, false, b⟩]⟩], ⟨0, seq⟩) := by
  have hl := len_l vs
  have hk : (putDeed ⟨#[107]⟩ b n).key = ⟨#[107]⟩ := rfl
  unfold doK
  simp only [hk, ent_l, ent_get, put_l]
  have h1 : ¬ 12 ≤ vs.length := by omega
  have h2 : ¬ 40 ≤ (if vs = [] then [] else [(⟨⟨#[107]⟩, vs⟩ : Ent)]).length := by omega
  have h3 : holdsE ⟨⟨#[107]⟩, vs⟩ (putDeed ⟨#[107]⟩ b n).cond (putDeed ⟨#[107]⟩ b n).tag = true := rfl
  rw [h3]
  show (if (12 ≤ vs.length || (!_ && decide (40 ≤ (if vs = [] then [] else [(⟨⟨#[107]⟩, vs⟩ : Ent)]).length))) = true then _ else _) = _
  rw [if_neg (by simp [h1, h2])]
  rfl
theorem doK_purge (vs : List Ver) (seq x : Int) (q : Nat) : doK (if vs = [] then [] else [⟨⟨#[107]⟩, vs⟩]) seq (prD x q) = match idxV vs x with
    | none => (if vs = [] then [] else [⟨⟨#[107]⟩, vs⟩], ⟨6, 0⟩)
    | some j => (if vs.take j ++ vs.drop (j + 1) = [] then [] else [⟨⟨#[107]⟩, vs.take j ++ vs.drop (j + 1)⟩], ⟨0, x⟩) := by
  have hk : (prD x q).key = ⟨#[107]⟩ := rfl
  have hv : (prD x q).ver = x := rfl
  unfold doK
  simp only [hk, hv, ent_l, ent_get, put_l]
  show (if ((3 : Int) == 3) = true then _ else _) = _
  rw [if_pos (show ((3 : Int) == 3) = true by decide)]
  cases idxV vs x with
  | none => rfl
  | some j =>
    simp only [List.length_eq_zero_iff]
theorem VI.put {p q : Nat} {s : Stt} {vs : List Ver} {order : List Int} (h : VI p q s vs order) (hp : p ≤ 11) (hq : q ≤ 12) {b : ByteArray} (hb : b.size ≤ 60) :
    ∃ t, doS s (putDeed ⟨#[107]⟩ b ((p : Int) + 1)) = (t, ⟨0, s.seq + 1⟩) ∧ t.seq = s.seq + 1 ∧ VI (p + 1) q t (vs ++ [⟨s.seq + 1, false, b⟩]) (order ++ [s.seq + 1]) ∧ ∀ x, alV (vs ++ [⟨s.seq + 1, false, b⟩]) x = if x = s.seq + 1 then some b else alV vs x := by
  have hmd := vD ((p : Int) + 1) ⟨by omega, by omega⟩ hb
  have h5 : s.lows.length = 5 := by rw [h.lows]; rfl
  have hmx : maxN = 1099511627776 := rfl
  have hs := h.seq
  have hs0 := (mayS_parts.1 h.may).1.1
  have hm := mayS_doS (d := putDeed ⟨#[107]⟩ b ((p : Int) + 1)) h5 h.may
  have hreq : (putDeed ⟨#[107]⟩ b ((p : Int) + 1)).req = 4294967296 + ((p : Int) + 1) := rfl
  obtain ⟨ms, e, hml, hmm⟩ := doF_new (s := s) (d := putDeed ⟨#[107]⟩ b ((p : Int) + 1)) h.lows (by rw [hreq]; omega) rfl (fun m hm => by rw [hreq]; have := h.mr m hm; omega) (by have := h.ms; omega)
  rw [doS_F h.may hmd (by omega)] at hm ⊢
  rw [e, h.l, doK_put vs (by have := h.len; omega)] at hm ⊢
  refine ⟨_, rfl, rfl, ⟨hm, h.lows, by show s.seq + 1 ≤ _; push_cast; omega, by rw [if_neg (by simp)], fun v hv => ?_, ?_, fun v hv => ?_, ?_, ?_, fun m hm' => ?_, fun x hx => ?_, ?_⟩, fun x => ?_⟩
  · rw [List.mem_append, List.mem_singleton] at hv
    rcases hv with hv | rfl
    · exact h.gone v hv
    · rfl
  · rw [List.pairwise_append]
    refine ⟨h.sorted, List.pairwise_singleton .., fun u hu v hv => ?_⟩
    rw [List.mem_singleton] at hv
    subst hv
    have := h.le u hu
    show u.ver < s.seq + 1
    omega
  · rw [List.mem_append, List.mem_singleton] at hv
    rcases hv with hv | rfl
    · have := h.le v hv
      show v.ver ≤ s.seq + 1
      omega
    · exact Int.le_refl _
  · have := h.len
    rw [List.length_append, List.length_singleton]
    omega
  · have := h.ms
    show ms.length ≤ _
    omega
  · rcases hmm m hm' with hr | hr
    · rw [hr, hreq]
      push_cast
      omega
    · have := h.mr m hr
      push_cast
      omega
  · rw [List.mem_append, List.mem_singleton] at hx
    show 1 ≤ x ∧ x ≤ s.seq + 1
    rcases hx with hx | rfl
    · have := h.ord x hx
      omega
    · omega
  · rw [List.length_append, List.length_singleton, h.olen]
  · rw [alV_snoc _ _ (fun u hu => by have := h.le u hu; show u.ver ≠ s.seq + 1; omega)]
theorem VI.purge {p q : Nat} {s : Stt} {vs : List Ver} {order : List Int} (h : VI p q s vs order) (hp : p ≤ 12) (hq : q ≤ 12) {x : Int} (hx : x ∈ order) :
    ∃ t r vs', doS s (prD x q) = (t, r) ∧ (r.err == 0) = (alV vs x).isSome ∧ VI p (q + 1) t vs' order ∧ ∀ y, alV vs' y = if y = x then none else alV vs y := by
  have hxr := h.ord x hx
  have hs := h.seq
  have hmd := prD_may x ⟨hxr.1, by omega⟩ q (by omega)
  have h5 : s.lows.length = 5 := by rw [h.lows]; rfl
  have hmx : maxN = 1099511627776 := rfl
  have hs0 := (mayS_parts.1 h.may).1.1
  have hm := mayS_doS (d := prD x q) h5 h.may
  have hreq : (prD x q).req = 4294967396 + (q : Int) := rfl
  obtain ⟨ms, e, hml, hmm⟩ := doF_new (s := s) (d := prD x q) h.lows (by rw [hreq]; omega) rfl (fun m hm => by rw [hreq]; have := h.mr m hm; omega) (by have := h.ms; omega)
  rw [doS_F h.may hmd (by omega)] at hm ⊢
  rw [e, h.l, doK_purge] at hm ⊢
  have hms : ms.length ≤ p + (q + 1) := by have := h.ms; omega
  have hmr : ∀ m ∈ ms, (m.req ≤ 4294967296 + (p : Int) ∨ 4294967396 ≤ m.req) ∧ m.req < 4294967396 + ((q + 1 : Nat) : Int) := fun m hm' => by
    rcases hmm m hm' with hr | hr
    · rw [hr, hreq]
      push_cast
      omega
    · have := h.mr m hr
      push_cast
      omega
  have hord : ∀ y ∈ order, 1 ≤ y ∧ y ≤ s.seq + 1 := fun y hy => by have := h.ord y hy; omega
  rw [alV_idx]
  cases hi : idxV vs x with
  | none =>
    rw [hi] at hm
    refine ⟨_, _, vs, rfl, rfl, ⟨hm, h.lows, by show s.seq + 1 ≤ _; push_cast; omega, rfl, h.gone, h.sorted, fun v hv => by have := h.le v hv; show v.ver ≤ s.seq + 1; omega, h.len, hms, hmr, hord, h.olen⟩, fun y => ?_⟩
    by_cases hy : y = x
    · rw [if_pos hy, hy, alV_idx, hi]
      rfl
    · rw [if_neg hy]
  | some j =>
    rw [hi] at hm
    obtain ⟨hj, hv⟩ := idxV_lt hi
    have hsub : (vs.take j ++ vs.drop (j + 1)).Sublist vs := by
      have := List.Sublist.append_left (List.drop_sublist_drop_left vs (Nat.le_succ j)) (vs.take j)
      rwa [List.take_append_drop] at this
    refine ⟨_, _, vs.take j ++ vs.drop (j + 1), rfl, by simp only [Option.bind_some, List.getElem?_eq_getElem hj]; rfl, ⟨hm, h.lows, by show s.seq + 1 ≤ _; push_cast; omega, rfl, fun v hv => h.gone v (hsub.subset hv), h.sorted.sublist hsub, fun v hv => by have := h.le v (hsub.subset hv); show v.ver ≤ s.seq + 1; omega, Nat.le_trans hsub.length_le h.len, hms, hmr, hord, h.olen⟩, alV_del vs x j h.sorted hi⟩
theorem VI.skip {p q : Nat} {s : Stt} {vs : List Ver} {order : List Int} (h : VI p q s vs order) : VI p (q + 1) s vs order :=
  ⟨h.may, h.lows, by have := h.seq; push_cast; omega, h.l, h.gone, h.sorted, h.le, h.len, by have := h.ms; omega, fun m hm => by have := h.mr m hm; push_cast; omega, h.ord, h.olen⟩
theorem info_i64 : (Tryz.prog.info? 2).map (fun i => (i.zero, i.size, i.bytes)) = some (some (.int .i64 0), 1, 8) := by kernel_rfl
theorem RowS.elem {S : Nat → Prop} {w : World} {A : Option Addr} {n cap : Nat} {l : List ByteArray} (hR : Row S w A n cap (l.map fun s => [Value.string s]).flatten) (i : Nat) (hi : i < l.length) : ∃ ad, A = some ad ∧ Go.Vc.cellsAt w (ad.add (i * 1)) [.string l[i]] 0 := by
  obtain ⟨ad, e, h⟩ := Row.elemF hR (by decide) (Flat.map (fun s : ByteArray => [Value.string s]) (fun _ => ⟨rfl, rfl⟩) l) i (by rw [List.length_map]; exact hi)
  rw [List.getElem_map] at h
  exact ⟨ad, e, h⟩
theorem RowB.elem {S : Nat → Prop} {w : World} {A : Option Addr} {n cap : Nat} {l : List Bool} (hR : Row S w A n cap (l.map fun s => [Value.bool s]).flatten) (i : Nat) (hi : i < l.length) : ∃ ad, A = some ad ∧ Go.Vc.cellsAt w (ad.add (i * 1)) [.bool l[i]] 0 := by
  obtain ⟨ad, e, h⟩ := Row.elemF hR (by decide) (Flat.map (fun s : Bool => [Value.bool s]) (fun _ => ⟨rfl, rfl⟩) l) i (by rw [List.length_map]; exact hi)
  rw [List.getElem_map] at h
  exact ⟨ad, e, h⟩
def intC (x : Int) : Value := .int .i64 x
theorem intC_flat (l : List Int) : (l.map fun e => [intC e]).flatten = l.map intC := by
  induction l with
  | nil => rfl
  | cons e r ih =>
    rw [List.map_cons, List.flatten_cons, ih]
    rfl
theorem RowI.elem {S : Nat → Prop} {w : World} {A : Option Addr} {n cap : Nat} {l : List Int} (hR : Row S w A n cap (l.map intC)) (i : Nat) (hi : i < l.length) : ∃ ad, A = some ad ∧ Go.Vc.cellsAt w (ad.add (i * 1)) [.int .i64 l[i]] 0 := by
  rw [← intC_flat] at hR
  obtain ⟨ad, e, h⟩ := Row.elemF hR (by decide) (Flat.map (fun e : Int => [intC e]) (fun e => ⟨rfl, rfl⟩) l) i (by rw [List.length_map]; exact hi)
  rw [List.getElem_map] at h
  exact ⟨ad, e, h⟩
theorem delB {P : Program} {ts cs} {ty : TypeId} {args : Array Value} {w w' : World} {v : Value} (h : (Builtin.delete_ ts ty args).run P w = .ok v w') : (builtin .delete ts ty cs args).run P w = .ok (.value v) w' := by
  show ((do pure (Next.value (← Builtin.delete_ ts ty args))) : Sem Next).run P w = _
  rw [Sem.run_bind, h]
  rfl
def prW (x : Int) (q : Nat) : D := ⟨3, ⟨#[107]⟩, ⟨#[]⟩, x, 0, ⟨#[]⟩, IntKind.i64.wrap (4294967396 + (q : Int)), 0⟩
theorem prW_eq (x : Int) (q : Nat) (h : q ≤ 100) : prW x q = prD x q := by
  unfold prW prD
  rw [IntWalk.i64_in _ ⟨by omega, by omega⟩]
set_option maxRecDepth 100000 in
set_option maxHeartbeats 16000000 in
theorem versB_any (bl : List ByteArray) (hbl : ∀ a ∈ bl, a.size ≤ 9223372036854775807) (A0 : Option Addr) (c0 : Nat) (pl : List Bool) (A1 : Option Addr) (c1 : Nat) (w : World) (hw : Env w) (hR0 : Row (inW w) w A0 bl.length c0 (bl.map fun s => [Value.string s]).flatten) (hR1 : Row (inW w) w A1 pl.length c1 (pl.map fun b => [Value.bool b]).flatten) :
    Calls Tryz.prog 12 #[.slice A0 bl.length c0, .slice A1 pl.length c1] w (RetB (.bool true) w) := by
  have hM0 := hR0.2.1
  have hM1 := hR1.2.1
  have hL0 : bl.length ≤ c0 := hR0.1
  have hL1 : pl.length ≤ c1 := hR1.1
  have hmax : maxLen = 9223372036854775807 := rfl
  refine calls_vc lay_ok Tryz.func12 rfl (by kernel_rfl) (by kernel_rfl) ?_
  have hc := CtxF.start w no (fun _ h => h.elim) (R := fun _ _ => True) trivial Stab.true
  refine call_b (begun5_any _ hw) ?_
  intro wQ hQ
  have hc := (hc.quiet hQ).1
  intro g6 wg6 hg6
  have hc := (hc.loc hg6).1
  have hc := hc.now (X := fun S w => RepS S w Stt0 (stX Stt0 SX0)) (fun _ => rep0X _ _) (stab_S _ _)
  refine ⟨_, _, run_makeMap _ _, ?_⟩
  have hb0 : w.heap.size ≤ wg6.heap.size := hc.below.size
  have hc := hc.mapNew (MapIs.made _) (MapIs.on _ _ _)
  generalize wg6.heap.size = b at *
  refine ⟨Nat × (Stt × SX) × List Ver × List Int × Option Addr × Nat, fun x => [(0, .slice A0 bl.length c0), (1, .slice A1 pl.length c1), (6, .pointer (some ⟨g6, 0, none⟩)), (7, .map (some b)), (8, .slice x.2.2.2.2.1 x.1 x.2.2.2.2.2), (9, .int .i64 x.1)],
    fun x w' => x.1 ≤ 12 ∧ x.1 ≤ bl.length ∧ VI x.1 x.1 x.2.1.1 x.2.2.1 x.2.2.2.1 ∧ ∃ S, CtxF no w S w' [(g6, 78, stX x.2.1.1 x.2.1.2)] [⟨2, 1, x.2.2.2.2.1, x.1, x.2.2.2.2.2, x.2.2.2.1.map intC⟩] (KM (fun S w => RepS S w x.2.1.1 (stX x.2.1.1 x.2.1.2)) b (MapIs b x.1 (alV x.2.2.1))),
    fun x _ => bl.length - x.1, (0, (Stt0, SX0), [], [], none, 0), ⟨rfl, rfl, rfl, rfl, rfl, rfl, trivial⟩, ⟨Nat.zero_le _, Nat.zero_le _, VI0, _, hc.nil _ _⟩, ?_⟩
  clear hc
  rintro ⟨i, ⟨s, y⟩, vs, order, A, cap⟩ w4 u ⟨hi, hil, hV, S, hc⟩
  simp only at hi hil hV hc
  by_cases hgo : i < bl.length ∧ i < 12
  rotate_left
  · by_cases hlt : i < bl.length
    refine split_t (decide_eq_true (by first | omega | (simp only; omega))) ?_
    refine split_f (decide_eq_false (show ¬ (i : Int) < 12 by omega)) ?_
    exact ⟨rfl, hc.below⟩
    rotate_left
    refine split_f (decide_eq_false (by first | omega | (simp only; omega))) ?_
    exact ⟨rfl, hc.below⟩
    rotate_left
  obtain ⟨hlt, hlt2⟩ := hgo
  refine split_t (decide_eq_true (by first | omega | (simp only; omega))) ?_
  refine split_t (decide_eq_true (show (i : Int) < 12 by omega)) ?_
  obtain ⟨ad, rfl, hcell⟩ := RowS.elem (hR0.below hc.below) i hlt
  have hw1 : IntKind.i64.wrap ((i : Int) + 1) = (i : Int) + 1 := IntWalk.i64_in _ ⟨by omega, by omega⟩
  refine ⟨⟨by omega, by omega⟩, ?_⟩
  refine ⟨_, hcell.1, ?_⟩
  have hcb := fun w => cutN_any bl[i] 60 w (hbl _ (List.getElem_mem hlt))
  have hbs : (cut bl[i] 60).size ≤ 60 := cut_size _ _
  generalize cut bl[i] 60 = b0 at hcb hbs
  refine call_b (hcb _) ?_
  intro wQ hQ
  have hc := (hc.quiet hQ).1
  obtain ⟨d, hd⟩ : ∃ d, d = putDeed ⟨#[107]⟩ b0 ((i : Int) + 1) := ⟨_, rfl⟩
  have hp := put5_any ⟨#[107]⟩ b0 ((i : Int) + 1) (by omega) (by omega)
  have hdm := vD ((i : Int) + 1) ⟨by omega, by omega⟩ hbs
  obtain ⟨t, hdo, hts, hV1, hal⟩ := hV.put (by omega) (by omega) hbs
  rw [← hd] at hp hdm hdo
  rw [← hw1] at hp
  refine call_b (hp _) ?_
  intro wQ hQ
  have hc := (hc.quiet hQ).1
  intro g10 wg10 hg10
  have hc := (hc.loc hg10).1
  refine ⟨hc.may 0 rfl _ _ (nle rfl) rfl, ?_⟩
  intro wS hS
  have hc := (hc.set 0 rfl hS).1
  refine ⟨_, ?_, hc.cells 1 rfl, ?_⟩
  · rfl
  refine ⟨_, ?_, hc.cells 0 rfl, ?_⟩
  · rfl
  have hseq := hV.seq
  have hseq0 := (mayS_parts.1 hV.may).1.1
  have holen := hV.olen
  obtain ⟨hSb, ⟨S1, hS1, hrep⟩, hM⟩ := hc.row
  refine ⟨(bdo_any s d (foldS_keys hV.may (by rw [hV.lows]; rfl)) (mayD_ok hdm) _ S1 _ (fun b hb => hc.ctx.lt b (hS1 b hb).1) hrep).mono fun en wq hq => ?_⟩
  rw [hdo] at hq
  obtain ⟨cc, e1, hq, hrep1⟩ := hq
  obtain ⟨y1, rfl⟩ := hrep1.stX
  have hc := hc.mapKnow (stab_S _ _) (MapIs.on _ _ _) hq hS1 hrep hrep1 (stab_S _ _)
  have hc := hc.mapNow (MapIs.on _ _ _) (X := fun S w => RepS S w t (stX t y1)) (fun S w h => h.2) (stab_S _ _)
  refine ⟨_, e1, ?_⟩
  subst hd
  intro g11 wg11 hg11
  have hc := (hc.loc hg11).1
  intro g12 wg12 hg12
  have hc := (hc.loc hg12).1
  refine ⟨hc.may 1 rfl _ _ (nle rfl) rfl, ?_⟩
  intro wS hS
  have hc := (hc.set 1 rfl hS).1
  refine ⟨hc.may 0 rfl _ _ (nle rfl) rfl, ?_⟩
  intro wS hS
  have hc := (hc.set 0 rfl hS).1
  refine ⟨_, ?_, hc.cells 1 rfl, ?_⟩
  · rfl
  refine ⟨hc.may 3 rfl _ _ (nle rfl) rfl, ?_⟩
  intro wS hS
  have hc := (hc.set 3 rfl hS).1
  refine ⟨_, hc.cell 0 rfl _ rfl, ?_⟩
  refine ⟨_, hc.cell 0 rfl _ rfl, ?_⟩
  refine ⟨_, hc.cell 3 rfl _ rfl, ?_⟩
  refine split_f (by rw [hts]; simp) ?_
  refine ⟨_, hc.cell 0 rfl _ rfl, ?_⟩
  refine ⟨_, hc.cell 2 rfl _ rfl, ?_⟩
  obtain ⟨wm, hm1, hm2, hm3⟩ := hc.row.2.2.store (x := s.seq + 1) (by unfold i64ok; omega) (by omega) b0 (Nat.le_trans hbs (by decide))
  refine ⟨wm, hm1, ?_⟩
  have hc := hc.mapTurn (stab_S _ _) hb0 hm2 hm3 (MapIs.on _ _ _)
  rw [show (fun y => if y = s.seq + 1 then some b0 else alV vs y) = alV (vs ++ [⟨s.seq + 1, false, b0⟩]) from funext fun x => (hal x).symm] at hc
  refine ⟨_, hc.cell 0 rfl _ rfl, ?_⟩
  intro gb wgb hgb
  have hc := (hc.loc hgb).1
  refine app_ownF Tryz.underlying98 info_i64 rfl (by decide) hc (ys := [intC (s.seq + 1)]) (m := 1) rfl (hc.cells 0 rfl) rfl (by omega) (by decide) rfl rfl ?_
  intro A2 cp2 w11 hc
  have hf := hc.drop.drop.drop.drop
  rw [show order.map intC ++ [intC (s.seq + 1)] = (order ++ [s.seq + 1]).map intC by rw [List.map_append]; rfl] at hf
  generalize order ++ [s.seq + 1] = order1 at hf hV1
  generalize vs ++ [⟨s.seq + 1, false, b0⟩] = vs1 at hf hV1
  clear hc hal hm3 hdo hts hdm
  have hc : CtxF no w _ w11 [(g6, 78, stX t y1)] [⟨2, 1, A2, i + 1, cp2, order1.map intC⟩] (KM (fun S w => RepS S w t (stX t y1)) b (MapIs b (i + 1) (alV vs1))) := hf
  clear hf
  have hol1 := hV1.olen
  have hseq1 := hV1.seq
  have hrow := (hc.fst.told hc.ctx).2.2 hc.fst.fit.1 hc.fst.fit.2
  obtain ⟨ad2, hA2, _⟩ := RowI.elem hrow 0 (by omega)
  have hA2 : A2 = some ad2 := hA2
  subst hA2
  by_cases hpg : ∃ hlp : i < pl.length, pl[i] = true
  obtain ⟨hlp, hpt⟩ := hpg
  refine split_t (decide_eq_true (by first | omega | (simp only; omega))) ?_
  obtain ⟨ad1, hA1, hcell1⟩ := RowB.elem (hR1.below hc.below) i hlp
  subst hA1
  refine ⟨⟨by omega, by omega⟩, ?_⟩
  refine ⟨_, hcell1.1, ?_⟩
  refine split_t hpt ?_
  obtain ⟨j, hj, hjl⟩ : ∃ j : Nat, IntKind.i64.wrap (((i + 1 : Nat) : Int).tdiv 2) = (j : Int) ∧ j < i + 1 :=
    ⟨(i + 1) / 2, by rw [show ((i + 1 : Nat) : Int).tdiv 2 = (((i + 1) / 2 : Nat) : Int) from rfl, IntWalk.i64_in _ ⟨by omega, by omega⟩], by omega⟩
  obtain ⟨ad3, hA3, hcell2⟩ := RowI.elem hrow j (by omega)
  have hA3 : some ad2 = some ad3 := hA3
  cases hA3
  refine vc_nz (by decide) ?_
  rw [hj]
  refine ⟨⟨by omega, by omega⟩, ?_⟩
  refine ⟨_, hcell2.1, ?_⟩
  have hxm : order1[j] ∈ order1 := List.getElem_mem _
  generalize order1[j] = x at hxm
  have hxr := hV1.ord x hxm
  refine ⟨_, ?_, hc.cells 0 rfl, ?_⟩
  · rfl
  obtain ⟨t2, r2, vs2, hdo2, her2, hV2, hal2⟩ := hV1.purge (by omega) (by omega) hxm
  obtain ⟨hSb1, ⟨S2, hS2, hrep2⟩, hM2⟩ := hc.row
  refine ⟨(bdo_any t (prW x i) (foldS_keys hV1.may (by rw [hV1.lows]; rfl)) (by rw [prW_eq x i (by omega)]; exact mayD_ok (prD_may x ⟨hxr.1, by omega⟩ i (by omega))) _ S2 _ (fun b hb => hc.ctx.lt b (hS2 b hb).1) hrep2).mono fun en wq hq => ?_⟩
  rw [prW_eq x i (by omega), hdo2] at hq
  obtain ⟨cc2, e1, hq, hrep3⟩ := hq
  obtain ⟨y2, rfl⟩ := hrep3.stX
  have hc := hc.mapKnow (stab_S _ _) (MapIs.on _ _ _) hq hS2 hrep2 hrep3 (stab_S _ _)
  have hc := hc.mapNow (MapIs.on _ _ _) (X := fun S w => RepS S w t2 (stX t2 y2)) (fun S w h => h.2) (stab_S _ _)
  refine ⟨_, e1, ?_⟩
  intro g14 wg14 hg14
  have hc := (hc.loc hg14).1
  intro g15 wg15 hg15
  have hc := (hc.loc hg15).1
  refine ⟨hc.may 1 rfl _ _ (nle rfl) rfl, ?_⟩
  intro wS hS
  have hc := (hc.set 1 rfl hS).1
  refine ⟨hc.may 0 rfl _ _ (nle rfl) rfl, ?_⟩
  intro wS hS
  have hc := (hc.set 0 rfl hS).1
  refine ⟨_, ?_, hc.cells 1 rfl, ?_⟩
  · rfl
  refine ⟨hc.may 2 rfl _ _ (nle rfl) rfl, ?_⟩
  intro wS hS
  have hc := (hc.set 2 rfl hS).1
  have hx64 : i64ok x := by unfold i64ok; omega
  obtain ⟨sv, hlk, hlk2⟩ := hc.row.2.2.look hx64
  refine ⟨_, _, hlk, ?_⟩
  refine ⟨_, hc.cell 0 rfl _ rfl, ?_⟩
  refine split_f (show (!((alV vs1 x).isSome == (r2.err == 0))) = false by rw [her2]; cases (alV vs1 x).isSome <;> rfl) ?_
  obtain ⟨wd, hd1, hd2, hd3⟩ := hc.row.2.2.drop hx64 0
  refine ⟨_, wd, delB hd1, ?_⟩
  have hc := hc.mapTurn (stab_S _ _) hb0 hd2 hd3 (MapIs.on _ _ _)
  rw [show (fun y => if y = x then none else alV vs1 y) = alV vs2 from funext fun y => (hal2 y).symm] at hc
  have hf := hc.drop.drop
  clear hc
  have hc : CtxF no w _ wd [(g6, 78, stX t2 y2)] [⟨2, 1, some ad2, i + 1, cp2, order1.map intC⟩] (KM (fun S w => RepS S w t2 (stX t2 y2)) b (MapIs b (i + 1) (alV vs2))) := hf
  clear hf
  clear hdo2 her2 hal2 hrep2 hrep3 hlk hd1 hd2 hd3 hM2
  rename Stt => t
  rename SX => y1
  rename List Ver => vs1
  have hc : CtxF no w _ _ [(g6, 78, stX t y1)] [⟨2, 1, some ad2, i + 1, cp2, order1.map intC⟩] (KM (fun S w => RepS S w t (stX t y1)) b (MapIs b (i + 1) (alV vs1))) := hc
  refine ⟨Nat, fun j => [(0, .slice (some ad) bl.length c0), (1, .slice (some ad1) pl.length c1), (6, .pointer (some ⟨g6, 0, none⟩)), (7, .map (some b)), (8, .slice (some ad2) (i + 1) cp2), (9, .int .i64 i), (112, .slice (some ad2) (i + 1) cp2), (113, .int .i64 ((i + 1 : Nat) : Int)), (114, .int .i64 j)],
    fun j w' => j ≤ i + 1 ∧ ∃ S, CtxF no w S w' [(g6, 78, stX t y1)] [⟨2, 1, some ad2, i + 1, cp2, order1.map intC⟩] (KM (fun S w => RepS S w t (stX t y1)) b (MapIs b (i + 1) (alV vs1))), fun j _ => i + 1 - j, 0,
    ⟨rfl, rfl, rfl, rfl, rfl, rfl, rfl, rfl, rfl, trivial⟩, ⟨Nat.zero_le _, _, hc⟩, ?_⟩
  clear hc
  rintro j w5 u5 ⟨hj, S5, hc⟩
  by_cases hlj : ¬ j < i + 1
  · refine split_f (decide_eq_false (by first | omega | (simp only; omega))) ?_
    exact ⟨(i + 1, (t, y1), vs1, order1, some ad2, cp2), ⟨rfl, rfl, rfl, rfl, rfl, congrArg _ (i_down (by omega)), trivial⟩, ⟨hlt2, hlt, hV2, _, hc⟩, by show bl.length - (i + 1) < bl.length - i; omega⟩
  have hlj : j < i + 1 := by omega
  refine split_t (decide_eq_true (by first | omega | (simp only; omega))) ?_
  have hrow := (hc.fst.told hc.ctx).2.2 hc.fst.fit.1 hc.fst.fit.2
  obtain ⟨ad3, hA3, hcell3⟩ := RowI.elem hrow j (by omega)
  have hA3 : some ad2 = some ad3 := hA3
  cases hA3
  refine ⟨⟨by omega, by omega⟩, ?_⟩
  refine ⟨_, hcell3.1, ?_⟩
  clear hrow
  have hxm : order1[j] ∈ order1 := List.getElem_mem _
  generalize order1[j] = x at hxm
  have hxr := hV2.ord x hxm
  have hseq2 := hV2.seq
  have hx64 : i64ok x := by unfold i64ok; omega
  refine ⟨_, ?_, hc.cells 0 rfl, ?_⟩
  · rfl
  obtain ⟨_, ⟨S3, _, hrep4⟩, _⟩ := hc.row
  have hg := bget_any t ⟨#[107]⟩ x _ _ _ hrep4
  have hgl := get_l hV2 (x := x) hxr.1
  cases hal : alV vs1 x with
  | none =>
    rw [hgl.2 hal] at hg
    refine call_b (hg) ?_
    intro wQ hQ
    have hc := (hc.quiet hQ).1
    intro g20 wg20 hg20
    have hc := (hc.loc hg20).1
    refine ⟨hc.may 0 rfl _ _ (nle rfl) rfl, ?_⟩
    intro wS hS
    have hc := (hc.set 0 rfl hS).1
    obtain ⟨sv, hlk, _⟩ := hc.row.2.2.look hx64
    rw [hal] at hlk
    refine ⟨_, _, hlk, ?_⟩
    exact ⟨j + 1, ⟨rfl, rfl, rfl, rfl, rfl, rfl, rfl, rfl, congrArg _ (i_down (by omega)), trivial⟩, ⟨hlj, _, hc.drop⟩, by show i + 1 - (j + 1) < i + 1 - j; omega⟩
  | some bx =>
    rw [(hgl.1 bx hal).1] at hg
    refine call_b (hg) ?_
    intro wQ hQ
    have hc := (hc.quiet hQ).1
    intro g20 wg20 hg20
    have hc := (hc.loc hg20).1
    refine ⟨hc.may 0 rfl _ _ (nle rfl) rfl, ?_⟩
    intro wS hS
    have hc := (hc.set 0 rfl hS).1
    obtain ⟨sv, hlk, hsv⟩ := hc.row.2.2.look hx64
    rw [hal] at hlk
    refine ⟨_, _, hlk, ?_⟩
    refine ⟨_, hc.cell 0 rfl _ rfl, ?_⟩
    refine split_f (by rw [(hgl.1 bx hal).2, hsv bx hal, strEq_iff.2 rfl]; rfl) ?_
    exact ⟨j + 1, ⟨rfl, rfl, rfl, rfl, rfl, rfl, rfl, rfl, congrArg _ (i_down (by omega)), trivial⟩, ⟨hlj, _, hc.drop⟩, by show i + 1 - (j + 1) < i + 1 - j; omega⟩
  rotate_left
  rotate_left
  by_cases hlp : i < pl.length
  refine split_t (decide_eq_true (by first | omega | (simp only; omega))) ?_
  obtain ⟨ad1, hA1, hcell1⟩ := RowB.elem (hR1.below hc.below) i hlp
  subst hA1
  refine ⟨⟨by omega, by omega⟩, ?_⟩
  refine ⟨_, hcell1.1, ?_⟩
  refine split_f (by cases h : pl[i] with | false => rfl | true => exact absurd ⟨hlp, h⟩ hpg) ?_
  have hV2 := hV1.skip
  have hc : CtxF no w _ _ [(g6, 78, stX t y1)] [⟨2, 1, some ad2, i + 1, cp2, order1.map intC⟩] (KM (fun S w => RepS S w t (stX t y1)) b (MapIs b (i + 1) (alV vs1))) := hc
  refine ⟨Nat, fun j => [(0, .slice (some ad) bl.length c0), (1, .slice (some ad1) pl.length c1), (6, .pointer (some ⟨g6, 0, none⟩)), (7, .map (some b)), (8, .slice (some ad2) (i + 1) cp2), (9, .int .i64 i), (112, .slice (some ad2) (i + 1) cp2), (113, .int .i64 ((i + 1 : Nat) : Int)), (114, .int .i64 j)],
    fun j w' => j ≤ i + 1 ∧ ∃ S, CtxF no w S w' [(g6, 78, stX t y1)] [⟨2, 1, some ad2, i + 1, cp2, order1.map intC⟩] (KM (fun S w => RepS S w t (stX t y1)) b (MapIs b (i + 1) (alV vs1))), fun j _ => i + 1 - j, 0,
    ⟨rfl, rfl, rfl, rfl, rfl, rfl, rfl, rfl, rfl, trivial⟩, ⟨Nat.zero_le _, _, hc⟩, ?_⟩
  clear hc
  rintro j w5 u5 ⟨hj, S5, hc⟩
  by_cases hlj : ¬ j < i + 1
  · refine split_f (decide_eq_false (by first | omega | (simp only; omega))) ?_
    exact ⟨(i + 1, (t, y1), vs1, order1, some ad2, cp2), ⟨rfl, rfl, rfl, rfl, rfl, congrArg _ (i_down (by omega)), trivial⟩, ⟨hlt2, hlt, hV2, _, hc⟩, by show bl.length - (i + 1) < bl.length - i; omega⟩
  have hlj : j < i + 1 := by omega
  refine split_t (decide_eq_true (by first | omega | (simp only; omega))) ?_
  have hrow := (hc.fst.told hc.ctx).2.2 hc.fst.fit.1 hc.fst.fit.2
  obtain ⟨ad3, hA3, hcell3⟩ := RowI.elem hrow j (by omega)
  have hA3 : some ad2 = some ad3 := hA3
  cases hA3
  refine ⟨⟨by omega, by omega⟩, ?_⟩
  refine ⟨_, hcell3.1, ?_⟩
  clear hrow
  have hxm : order1[j] ∈ order1 := List.getElem_mem _
  generalize order1[j] = x at hxm
  have hxr := hV2.ord x hxm
  have hseq2 := hV2.seq
  have hx64 : i64ok x := by unfold i64ok; omega
  refine ⟨_, ?_, hc.cells 0 rfl, ?_⟩
  · rfl
  obtain ⟨_, ⟨S3, _, hrep4⟩, _⟩ := hc.row
  have hg := bget_any t ⟨#[107]⟩ x _ _ _ hrep4
  have hgl := get_l hV2 (x := x) hxr.1
  cases hal : alV vs1 x with
  | none =>
    rw [hgl.2 hal] at hg
    refine call_b (hg) ?_
    intro wQ hQ
    have hc := (hc.quiet hQ).1
    intro g20 wg20 hg20
    have hc := (hc.loc hg20).1
    refine ⟨hc.may 0 rfl _ _ (nle rfl) rfl, ?_⟩
    intro wS hS
    have hc := (hc.set 0 rfl hS).1
    obtain ⟨sv, hlk, _⟩ := hc.row.2.2.look hx64
    rw [hal] at hlk
    refine ⟨_, _, hlk, ?_⟩
    exact ⟨j + 1, ⟨rfl, rfl, rfl, rfl, rfl, rfl, rfl, rfl, congrArg _ (i_down (by omega)), trivial⟩, ⟨hlj, _, hc.drop⟩, by show i + 1 - (j + 1) < i + 1 - j; omega⟩
  | some bx =>
    rw [(hgl.1 bx hal).1] at hg
    refine call_b (hg) ?_
    intro wQ hQ
    have hc := (hc.quiet hQ).1
    intro g20 wg20 hg20
    have hc := (hc.loc hg20).1
    refine ⟨hc.may 0 rfl _ _ (nle rfl) rfl, ?_⟩
    intro wS hS
    have hc := (hc.set 0 rfl hS).1
    obtain ⟨sv, hlk, hsv⟩ := hc.row.2.2.look hx64
    rw [hal] at hlk
    refine ⟨_, _, hlk, ?_⟩
    refine ⟨_, hc.cell 0 rfl _ rfl, ?_⟩
    refine split_f (by rw [(hgl.1 bx hal).2, hsv bx hal, strEq_iff.2 rfl]; rfl) ?_
    exact ⟨j + 1, ⟨rfl, rfl, rfl, rfl, rfl, rfl, rfl, rfl, congrArg _ (i_down (by omega)), trivial⟩, ⟨hlj, _, hc.drop⟩, by show i + 1 - (j + 1) < i + 1 - j; omega⟩
  rotate_left
  rotate_left
  refine split_f (decide_eq_false (by first | omega | (simp only; omega))) ?_
  have hV2 := hV1.skip
  have hc : CtxF no w _ _ [(g6, 78, stX t y1)] [⟨2, 1, some ad2, i + 1, cp2, order1.map intC⟩] (KM (fun S w => RepS S w t (stX t y1)) b (MapIs b (i + 1) (alV vs1))) := hc
  refine ⟨Nat, fun j => [(0, .slice (some ad) bl.length c0), (1, .slice A1 pl.length c1), (6, .pointer (some ⟨g6, 0, none⟩)), (7, .map (some b)), (8, .slice (some ad2) (i + 1) cp2), (9, .int .i64 i), (112, .slice (some ad2) (i + 1) cp2), (113, .int .i64 ((i + 1 : Nat) : Int)), (114, .int .i64 j)],
    fun j w' => j ≤ i + 1 ∧ ∃ S, CtxF no w S w' [(g6, 78, stX t y1)] [⟨2, 1, some ad2, i + 1, cp2, order1.map intC⟩] (KM (fun S w => RepS S w t (stX t y1)) b (MapIs b (i + 1) (alV vs1))), fun j _ => i + 1 - j, 0,
    ⟨rfl, rfl, rfl, rfl, rfl, rfl, rfl, rfl, rfl, trivial⟩, ⟨Nat.zero_le _, _, hc⟩, ?_⟩
  clear hc
  rintro j w5 u5 ⟨hj, S5, hc⟩
  by_cases hlj : ¬ j < i + 1
  · refine split_f (decide_eq_false (by first | omega | (simp only; omega))) ?_
    exact ⟨(i + 1, (t, y1), vs1, order1, some ad2, cp2), ⟨rfl, rfl, rfl, rfl, rfl, congrArg _ (i_down (by omega)), trivial⟩, ⟨hlt2, hlt, hV2, _, hc⟩, by show bl.length - (i + 1) < bl.length - i; omega⟩
  have hlj : j < i + 1 := by omega
  refine split_t (decide_eq_true (by first | omega | (simp only; omega))) ?_
  have hrow := (hc.fst.told hc.ctx).2.2 hc.fst.fit.1 hc.fst.fit.2
  obtain ⟨ad3, hA3, hcell3⟩ := RowI.elem hrow j (by omega)
  have hA3 : some ad2 = some ad3 := hA3
  cases hA3
  refine ⟨⟨by omega, by omega⟩, ?_⟩
  refine ⟨_, hcell3.1, ?_⟩
  clear hrow
  have hxm : order1[j] ∈ order1 := List.getElem_mem _
  generalize order1[j] = x at hxm
  have hxr := hV2.ord x hxm
  have hseq2 := hV2.seq
  have hx64 : i64ok x := by unfold i64ok; omega
  refine ⟨_, ?_, hc.cells 0 rfl, ?_⟩
  · rfl
  obtain ⟨_, ⟨S3, _, hrep4⟩, _⟩ := hc.row
  have hg := bget_any t ⟨#[107]⟩ x _ _ _ hrep4
  have hgl := get_l hV2 (x := x) hxr.1
  cases hal : alV vs1 x with
  | none =>
    rw [hgl.2 hal] at hg
    refine call_b (hg) ?_
    intro wQ hQ
    have hc := (hc.quiet hQ).1
    intro g20 wg20 hg20
    have hc := (hc.loc hg20).1
    refine ⟨hc.may 0 rfl _ _ (nle rfl) rfl, ?_⟩
    intro wS hS
    have hc := (hc.set 0 rfl hS).1
    obtain ⟨sv, hlk, _⟩ := hc.row.2.2.look hx64
    rw [hal] at hlk
    refine ⟨_, _, hlk, ?_⟩
    exact ⟨j + 1, ⟨rfl, rfl, rfl, rfl, rfl, rfl, rfl, rfl, congrArg _ (i_down (by omega)), trivial⟩, ⟨hlj, _, hc.drop⟩, by show i + 1 - (j + 1) < i + 1 - j; omega⟩
  | some bx =>
    rw [(hgl.1 bx hal).1] at hg
    refine call_b (hg) ?_
    intro wQ hQ
    have hc := (hc.quiet hQ).1
    intro g20 wg20 hg20
    have hc := (hc.loc hg20).1
    refine ⟨hc.may 0 rfl _ _ (nle rfl) rfl, ?_⟩
    intro wS hS
    have hc := (hc.set 0 rfl hS).1
    obtain ⟨sv, hlk, hsv⟩ := hc.row.2.2.look hx64
    rw [hal] at hlk
    refine ⟨_, _, hlk, ?_⟩
    refine ⟨_, hc.cell 0 rfl _ rfl, ?_⟩
    refine split_f (by rw [(hgl.1 bx hal).2, hsv bx hal, strEq_iff.2 rfl]; rfl) ?_
    exact ⟨j + 1, ⟨rfl, rfl, rfl, rfl, rfl, rfl, rfl, rfl, congrArg _ (i_down (by omega)), trivial⟩, ⟨hlj, _, hc.drop⟩, by show i + 1 - (j + 1) < i + 1 - j; omega⟩
set_option maxRecDepth 100000 in
theorem bookVersions_ct {H : Type} (enc : TypeId × Value → H) (W : World) (hw : Env W) {base : Nat}
    (v0 : Value) (d0 : DataW H) (p0 : List MemPlace) (h0 : DataW.Trod enc Tryz.prog W 0 (fun _ => true) true 95 v0 d0 p0) (k0 : Value.okWide Tryz.prog W .any base 95 v0)
    (v1 : Value) (d1 : DataW H) (p1 : List MemPlace) (h1 : DataW.Trod enc Tryz.prog W 0 (fun _ => true) true 96 v1 d1 p1) (k1 : Value.okWide Tryz.prog W .any base 96 v1) :
    Calls Tryz.prog 12 #[v0, v1] W (RetB (.bool true) W) := by
  obtain ⟨A0, c0, a0, rfl, r0, o0⟩ := open_strs h0 k0
  obtain ⟨A1, c1, a1, rfl, r1⟩ := open_bools h1 k1
  exact versB_any a0 (fun a ha => Nat.le_trans (o0 a ha) (by decide)) A0 c0 a1 A1 c1 W hw r0 r1
end Go.Proofs.YtbmoimihnndboaaGreatDoor
