import Derived.Test.YtbmoimihnndboaaGreatDoorM12
import Derived.Laws.OwnMore
set_option linter.unusedVariables false
set_option linter.unusedSimpArgs false
namespace Go.Proofs.YtbmoimihnndboaaGreatDoor
open Go.Vc Go.RowKit Go.Fl Go.ChangeShapes Go.WideShapes Go.ChangeAt
theorem xor_u8 (p x : Int) : ∃ c : UInt8, bits .xor .u8 p x = (c.toNat : Int) := by
  have hw : ∀ n : Fin 256, IntKind.u8.wrap ((n.val : Nat) : Int) = (n.val : Int) := by decide +kernel
  exact ⟨⟨BitVec.ofInt 8 p ^^^ BitVec.ofInt 8 x⟩, hw ⟨(BitVec.ofInt 8 p ^^^ BitVec.ofInt 8 x).toNat, BitVec.isLt _⟩⟩
theorem addm (g m : Nat) : ((⟨g, 0, none⟩ : Addr).add ((m : Int).toNat * 1)) = ⟨g, m, none⟩ := by rw [Nat.mul_one, Int.toNat_natCast, Addr.add_lit, Nat.zero_add]
theorem may_bytes (w : World) (tb : ByteArray) (m : Nat) (hm : m < tb.size) (v : Value) (hv : v.oneCell' = true) : mayStore (Lib.bytesWorld w 5 tb) ((⟨w.heap.size, 0, none⟩ : Addr).add ((m : Int).toNat * 1)) [v] 0 := by
  have hc := Lib.bytesWorld_cell w 5 tb m hm
  have hn := Lib.bytesWorld_at_new w 5 tb
  refine ⟨⟨_, by rw [addm, Addr.add_lit, Nat.add_zero]; exact hc⟩, ?_, hv, trivial⟩
  rw [addm, Addr.add_lit, Nat.add_zero]
  have hsz : m < (Lib.bytesCells w 5 tb).size := by
    rcases Nat.lt_or_ge m (Lib.bytesCells w 5 tb).size with h | h
    · exact h
    · simp [World.cell?, hn, Array.getElem?_eq_none h] at hc
  simp only [World.frozen?, hn, Bool.and_eq_false_iff, decide_eq_false_iff_not]
  left
  omega
theorem set_bytes (w : World) (tb : ByteArray) (hM : tb.size ≤ maxLen) (m : Nat) (hm : m < tb.size) (c : UInt8) (wT : World) (hT : Stored (Lib.bytesWorld w 5 tb) ((⟨w.heap.size, 0, none⟩ : Addr).add ((m : Int).toNat * 1)) [.int .u8 (c.toNat : Int)] wT) :
    Below w.heap.size w wT ∧ Row (fun b => b = w.heap.size) wT (some ⟨w.heap.size, 0, none⟩) tb.size (grownCap w tb.size 0 5) (bv (tb.data.toList.set m c)) := by
  have hT : wT = (Lib.bytesWorld w 5 tb).setCell ⟨w.heap.size, m, none⟩ (.int .u8 (c.toNat : Int)) := by
    rw [hT, addm]
    show (Lib.bytesWorld w 5 tb).setCell ((⟨w.heap.size, m, none⟩ : Addr).add 0) _ = _
    rw [Addr.add_lit, Nat.add_zero]
  subst hT
  refine ⟨(Lib.bytesWorld_below w _ tb).setCell (Nat.le_refl _) _, grownCap_ge w tb.size 0 _, grownCap_le_maxLen w tb.size 0 _ hM, fun _ => ⟨_, rfl, rfl, fun j u hu => ?_⟩⟩
  have hj : j < (tb.data.toList.set m c).length := by
    rcases Nat.lt_or_ge j (tb.data.toList.set m c).length with h | h
    · exact h
    · rw [List.getElem?_eq_none (by rw [bv_len]; exact h)] at hu
      cases hu
  rw [bv_get _ _ hj] at hu
  cases hu
  have hjl : j < tb.size := by
    rw [List.length_set] at hj
    exact hj
  have e3 : (tb.data.toList.set m c).getD j 0 = if m = j then c else tb.data.toList.getD j 0 := by
    have hl : m < tb.data.toList.length := hm
    rw [List.getD_eq_getElem?_getD, List.getElem?_set, List.getD_eq_getElem?_getD]
    by_cases e : m = j
    · subst e
      rw [if_pos rfl, if_pos hl, if_pos rfl]
      rfl
    · rw [if_neg e, if_neg e]
  rw [Addr.add_lit, Nat.zero_add, e3]
  by_cases e : m = j
  · subst e
    rw [if_pos rfl]
    exact World.cell?_setCell_same _ _ _ (Lib.bytesWorld_cell w _ tb m hm)
  · rw [if_neg e, World.cell?_setCell_other (h := fun h => e (congrArg Addr.off h)), Lib.bytesWorld_cell w _ tb j hjl]
theorem tpos (t : List UInt8) (h : strEq ⟨t.toArray⟩ ⟨#[]⟩ = false) : 0 < t.length := by
  rcases Nat.eq_zero_or_pos t.length with h0 | h0
  · have : t = [] := List.eq_nil_of_length_eq_zero h0
    subst this
    rw [strEq_iff.2 rfl] at h
    cases h
  · exact h0
theorem bvz (n : Nat) : bv (List.replicate n 0) = List.replicate n (.int .u8 0) := by
  unfold bv
  rw [List.map_replicate]
  rfl
theorem infu8 : (Tryz.prog.info? 5).map (fun i => (i.zero, i.size, i.bytes)) = some (some (.int .u8 0), 1, 1) := by kernel_rfl
theorem mkU8 (n : Nat) (hn : n ≤ 1000000) (w : World) : ∃ w', (Instr.makeSlice 50 (.int .i64 (n : Int)) (.int .i64 (n : Int))).run Tryz.prog w = .ok (.slice (some ⟨w.heap.size, 0, none⟩) n n) w' ∧
    w'.ownsRow w.heap.size 5 1 (.slice (some ⟨w.heap.size, 0, none⟩) n n) n (List.replicate n (.int .u8 0)) ∧ w.grownBy w' none := by
  obtain ⟨i, hi, e⟩ := Option.map_eq_some_iff.1 infu8
  have hz : i.zero = some (.int .u8 0) := congrArg Prod.fst e
  have hs : i.size = 1 := congrArg (fun q => q.2.1) e
  have hb : i.bytes = 1 := congrArg (fun q => q.2.2) e
  have hM : 1000000 ≤ maxLen := by decide
  obtain ⟨w', h1, h2, h3⟩ := run_makeSlice_full (P := Tryz.prog) (w := w) w.heap.size 50 5 i _ 1 Tryz.underlying50 hi hz hs .i64 .i64 n (by omega) (by rw [hb]; omega) (by omega) (Nat.le_refl _)
  refine ⟨w', h1, ?_, h3⟩
  have : (madeCells (Value.int .u8 0).cells (n * 1)).toList = List.replicate n (.int .u8 0) := by
    rw [Nat.mul_one]
    exact toList_madeCells_one _ _
  rwa [this] at h2
theorem blk_row {w : World} {g T : Nat} {xs : List Value} (hB : Blk w g T xs) (n : Nat) (hn : n ≤ maxLen) : Row (fun b => b = g) w (some ⟨g, 0, none⟩) n n xs :=
  ⟨Nat.le_refl _, hn, fun _ => ⟨_, rfl, rfl, fun j u hu => by rw [Addr.add_lit, Nat.zero_add, hB.cell]; exact hu⟩⟩
theorem mayB {S0 S : Nat → Prop} {w0 w : World} {l : List LB} {os : List OR} {R : Kn} (hc : CtxF S0 w0 S w l os R) (k : Nat) {g T : Nat} {cs : List Value} (h : l[k]? = some (g, T, cs)) (i : Nat) (hi : i < cs.length) (v : Value) (hv : v.oneCell' = true) :
    mayStore w ((⟨g, 0, none⟩ : Addr).add ((i : Int).toNat * 1)) [v] 0 := by
  rw [addm]
  exact hc.may k h i [v] (by rw [List.length_singleton]; omega) (by simp [allOne, hv])
theorem setB {S0 S : Nat → Prop} {w0 w w' : World} {l : List LB} {os : List OR} {R : Kn} (hc : CtxF S0 w0 S w l os R) (k : Nat) {g T : Nat} {cs : List Value} (h : l[k]? = some (g, T, cs)) (i : Nat) {v : Value} (hS : Stored w ((⟨g, 0, none⟩ : Addr).add ((i : Int).toNat * 1)) [v] w') :
    CtxF S0 w0 S w' (setLoc l k (cs.set i v)) os R := by
  rw [addm] at hS
  exact (hc.set k h hS).1
theorem bv_set (l : List UInt8) (i : Nat) (c : UInt8) : (bv l).set i (.int .u8 (c.toNat : Int)) = bv (l.set i c) := by
  unfold bv
  rw [List.map_set]
theorem u8_of (x : Int) (h : 0 ≤ x ∧ x ≤ 255) : ∃ c : UInt8, x = (c.toNat : Int) := by
  refine ⟨UInt8.ofNat x.toNat, ?_⟩
  rw [UInt8.toNat_ofNat']
  omega
end Go.Proofs.YtbmoimihnndboaaGreatDoor
namespace Go.Proofs.YtbmoimihnndboaaGreatDoor
open Go.Vc Go.RowKit Go.Fl
def doF (s : Stt) (d : D) : Stt × Res :=
  if d.req < lowAt s.lows (homeI d.req) then (⟨s.seq + 1, s.l, s.ms, s.lows⟩, ⟨12, 0⟩)
  else match memAt s.ms d.req with
    | some m => (⟨s.seq + 1, s.l, s.ms, s.lows⟩, m.res)
    | none =>
      if 100 ≤ s.ms.length then (⟨s.seq + 1, s.l, s.ms, s.lows⟩, ⟨5, 0⟩)
      else
        let q := doK s.l (s.seq + 1) d
        let ms := s.ms.take (posM s.ms d.req) ++ ⟨d.req, q.2⟩ :: s.ms.drop (posM s.ms d.req)
        if lowAt s.lows (homeI d.req) < d.low ∧ homeI d.low = homeI d.req then
          (⟨s.seq + 1, q.1, keepM d.low (homeI d.req) ms, s.lows.set (homeI d.req - 1).toNat d.low⟩, q.2)
        else (⟨s.seq + 1, q.1, ms, s.lows⟩, q.2)
theorem doS_F {s : Stt} {d : D} (h : mayS s = true) (hd : mayD d = true) (hq : s.seq < maxN) : doS s d = doF s d := by
  unfold doS doF
  rw [if_neg (by rw [h, hd]; decide), if_neg (by omega)]
  rfl
theorem doS_seq (s : Stt) (d : D) : (doS s d).1.seq ≤ s.seq + 1 := by
  cases doS_done s d with
  | form _ e => rw [e]; show s.seq ≤ _; omega
  | top _ e => rw [e]; show s.seq ≤ _; omega
  | old _ _ _ _ e => rw [e]; exact Int.le_refl _
  | told _ _ _ _ _ _ e => rw [e]; exact Int.le_refl _
  | full _ _ _ _ _ _ e => rw [e]; exact Int.le_refl _
  | new _ _ _ _ _ _ _ _ _ _ e => rw [e]; exact Int.le_refl _
def foldS (s : Stt) (l : List D) : Stt := l.foldl (fun s d => (doS s d).1) s
def foldF (s : Stt) (l : List D) : Stt := l.foldl (fun s d => (doF s d).1) s
theorem foldS_ok : ∀ (l : List D) {s : Stt}, mayS s = true → s.lows.length = 5 → mayS (foldS s l) = true ∧ (foldS s l).lows.length = 5 ∧ (foldS s l).seq ≤ s.seq + l.length
  | [], s, h, h5 => ⟨h, h5, by show s.seq ≤ s.seq + ((0 : Nat) : Int); omega⟩
  | d :: r, s, h, h5 => by
    obtain ⟨a, b, c⟩ := foldS_ok r (mayS_doS (d := d) h5 h) (doS_lows5 d h5)
    have := doS_seq s d
    refine ⟨a, b, Int.le_trans c ?_⟩
    rw [List.length_cons]
    omega
theorem foldS_F : ∀ (l : List D) {s : Stt}, mayS s = true → s.lows.length = 5 → (∀ d ∈ l, mayD d = true) → s.seq + l.length < maxN → foldS s l = foldF s l
  | [], s, h, h5, hd, hq => rfl
  | d :: r, s, h, h5, hd, hq => by
    rw [List.length_cons] at hq
    have e : doS s d = doF s d := doS_F h (hd d (List.mem_cons_self ..)) (by omega)
    have := doS_seq s d
    have ih := foldS_F r (mayS_doS (d := d) h5 h) (doS_lows5 d h5) (fun x hx => hd x (List.mem_cons_of_mem _ hx)) (by omega)
    show foldS (doS s d).1 r = foldF (doF s d).1 r
    rw [ih, e]
theorem foldS_keys {s : Stt} (h : mayS s = true) (h5 : s.lows.length = 5) : ∀ e ∈ s.l, strok e.key := fun e he => ((mayS_ok h5 h).l e he).key
theorem foldS_snoc (s : Stt) (l : List D) (d : D) : foldS s (l ++ [d]) = (doS (foldS s l) d).1 := by
  unfold foldS
  rw [List.foldl_append]
  rfl
def dgs (n : Nat) : List UInt8 := if n < 10 then [UInt8.ofNat (48 + n)] else [UInt8.ofNat (48 + n / 10), UInt8.ofNat (48 + n % 10)]
theorem dec_dgs {n : Nat} (h : n < 100) : Lib.decDigits n = dgs n := by
  unfold dgs
  split
  · rename_i h1
    rw [Lib.decDigits, dif_pos h1]
  · rename_i h1
    rw [Lib.decDigits, dif_neg h1, Lib.decDigits, dif_pos (by omega)]
    rfl
theorem itoa_dgs {n : Nat} (h : n < 100) : Lib.itoa (n : Int) = dgs n := by
  rw [← dec_dgs h]
  unfold Lib.itoa
  rw [if_neg (by omega)]
  congr 1
theorem dgs_any (n : Nat) (h : n < 100) (w : World) : Calls Tryz.prog 73 #[.int .i64 (n : Int)] w (RetB (.string ⟨(dgs n).toArray⟩) w) := by
  have := rDigits_any (n : Int) ⟨by omega, by omega⟩ w
  rwa [itoa_dgs h] at this
theorem dgs_len (n : Nat) : (dgs n).length ≤ 2 := by
  unfold dgs
  split
  · exact Nat.le_succ 1
  · exact Nat.le_refl 2
theorem sz_dgs (n : Nat) : (⟨#[107]⟩ : ByteArray).size + (⟨(dgs n).toArray⟩ : ByteArray).size ≤ 9223372036854775807 := by
  have h := dgs_len n
  have h1 : (⟨(dgs n).toArray⟩ : ByteArray).size = (dgs n).length := by simp [ByteArray.size]
  have h2 : (⟨#[107]⟩ : ByteArray).size = 1 := rfl
  omega
theorem kcat (n : Nat) : (⟨#[107]⟩ : ByteArray) ++ ⟨(dgs n).toArray⟩ = ⟨(107 :: dgs n).toArray⟩ := by
  apply ByteArray.ext
  rw [ByteArray.data_append]
  simp
theorem _root_.Go.Vc.Old.new {w x x' : World} {cs : List Value} {T g : Nat} (hk : Old w x) (h : New x cs T g x') : ¬ g < w.heap.size := by
  have h1 := hk.2
  have h2 := h.1
  omega
end Go.Proofs.YtbmoimihnndboaaGreatDoor
