/-
  Parts of the proof: Aps, Xpt, Btw.
-/
import Derived.Test.YtjhpiclnpmdjnaaGreatDoorQ24
import Derived.Deep.AppendLies
import Derived.Test.YtjhpiclnpmdjnaaGreatDoorQ08
import Derived.Test.YtjhpiclnpmdjnaaGreatDoorQ23
namespace Go.Proofs.YtjhpiclnpmdjnaaGreatDoor.Sr
open Go Go.RowKit
open Go.Proofs.YtjhpiclnpmdjnaaGreatDoor
open Go.Proofs.YtjhpiclnpmdjnaaGreatDoor.Ln (flat flat_len flat_get RowIn OwnR)
set_option linter.unusedVariables false
set_option linter.unusedSimpArgs false
section
variable {α : Type} {enc : α → List Value} {k : Nat} {T : TypeId}
theorem gvs_wp {ST : TypeId} {z : Value} {bytes : Nat} (hk : ∀ x, (enc x).length = k) (he : ∀ x, ∀ u ∈ enc x, u.oneCell' = true) (k0 : 0 < k) (kb : bytes ≤ 1024) (hzs : z.cells.size = k)
  (hinfo : (Tryz.prog.info? T).map (fun i => (i.zero, i.size, i.bytes)) = some (some z, k, bytes)) (hu : Tryz.prog.underlying ST = some (.slice T))
  {o : Oper} {a : Act} {K : Act → World → Prop} {Q : Exit → Act → World → Prop} {W : World} {B : Nat} {v : Value} {xs : List α} (ys : List α) (hgd : o.guard = none) (s y : Operand)
  (ho : o.op = .call { callee := .builtin .append, args := #[s, y], argTypes := #[ST, ST] }) (hs : a.eval s = v) (hr : GV enc k T W B v xs)
  (ay : Option Addr) (cy : Nat) (hy : a.eval y = .slice ay ys.length cy) (hyr : RowIn enc W ay ys) (hl : xs.length + ys.length ≤ 1000000) (hB : B ≤ W.heap.size)
  (h : ∀ v' w', GV enc k T w' B v' (xs ++ ys) → Below B W w' → W.grownBy w' v.ownBlock ∨ w' = W → K (a.put o.dst v') w') : Oper.wp Tryz.prog o a W K Q := by
 obtain ⟨i, hi, hzz⟩ := Option.map_eq_some_iff.1 hinfo
 simp only [Prod.mk.injEq] at hzz
 obtain ⟨hz, hsz, hby⟩ := hzz
 by_cases h0 : 0 < ys.length
 ·have hw : Region.wanted o (yielded #[] a.tmps) = true := by simp [Region.wanted, hgd]
  obtain ⟨b, off, rfl, hc⟩ := hyr h0
  have H := step_append_lies (P := Tryz.prog) (ops := #[]) (o := o) (a := a) (w := W) (K := K) (Q := Q) (E := False) hgd s y ST ho B T i z k bytes hu hi hz hsz hby hzs k0 v xs.length (flat enc xs) hs hr.1 ⟨b, off, none⟩ ys.length cy (flat enc ys) hy (flat_len hk ys)
   (fun j u hj => by rw [show (⟨b, off, none⟩ : Addr).add j = ⟨b, off + j, none⟩ from Go.WideShapes.add_plain ..]; exact hc j u hj) (Ln.flat_mem he ys) h0 (by unfold maxLen; omega)
   (by calc (xs.length + ys.length) * bytes ≤ 1000000 * 1024 := Nat.mul_le_mul hl kb
      _ ≤ 140737488355328 := by decide) hB _ rfl (fun g' c' w' hown hgr hat hlt => by
    have e : flat enc xs ++ flat enc ys = flat enc (xs ++ ys) := by simp [flat]
    rw [e, show xs.length + ys.length = (xs ++ ys).length by simp] at hown
    rw [show xs.length + ys.length = (xs ++ ys).length by simp]
    exact h _ w' ⟨hown, _, _, rfl⟩ ((Below.refl _ _).grown hgr hB (fun j hj => (hr.lt j hj).2)) (.inl hgr))
  rw [if_pos hw] at H
  exact H
 ·obtain rfl : ys = [] := List.eq_nil_of_length_eq_zero (by omega)
  obtain ⟨a1, c, rfl⟩ := hr.2
  have hle : xs.length ≤ c := by
   rcases hr.1.2 with ⟨e, e0⟩ | ⟨_, _, _, e, _, _, h4, _⟩
   ·obtain ⟨_, _, rfl⟩ := by simpa using e
    omega
   ·obtain ⟨_, _, rfl⟩ := by simpa using e
    exact h4
  have hrun : (Builtin.append_ #[ST, ST] o.type #[.slice a1 xs.length c, .slice ay 0 cy]).run Tryz.prog W = .ok (.slice a1 xs.length c) W := by
   rcases hr.1.2 with ⟨e, e0⟩ | ⟨g, _, _, e, _, _, h4, _⟩
   ·obtain ⟨rfl, e1, rfl⟩ := by simpa using e
    cases ay <;> simp [Builtin.append_, run_underlying hu, Go.sizeOf, typeInfo, hi, e1, storeCells, loadCells, Builtin.lenOf, Builtin.firstCells, loadCellsFrom]
   ·obtain ⟨rfl, _, _⟩ := by simpa using e
    cases ay <;> simp [Builtin.append_, run_underlying hu, Go.sizeOf, typeInfo, hi, hle, storeCells, loadCells, Builtin.lenOf, Builtin.firstCells, loadCellsFrom]
  have H := h _ W (by rw [List.append_nil]; exact hr) (Below.refl _ _) (.inr rfl)
  have hy' : a.eval y = .slice ay 0 cy := hy
  unfold Oper.wp
  simp [execOp, ho, resolve, invoke, builtin, hs, hy', hrun, Result.andThen]
  exact H
theorem gvs_list {ST : TypeId} {z : Value} {bytes : Nat} (hk : ∀ x, (enc x).length = k) (he : ∀ x, ∀ u ∈ enc x, u.oneCell' = true) (k0 : 0 < k) (kb : bytes ≤ 1024) (hzs : z.cells.size = k)
  (hinfo : (Tryz.prog.info? T).map (fun i => (i.zero, i.size, i.bytes)) = some (some z, k, bytes)) (hu : Tryz.prog.underlying ST = some (.slice T))
  {ops : Array Oper} {rest : List Oper} {o : Oper} {a : Act} {Q : Exit → Act → World → Prop} {W : World} {B : Nat} {v : Value} {xs : List α} (ys : List α) (hgd : o.guard = none) (s y : Operand)
  (ho : o.op = .call { callee := .builtin .append, args := #[s, y], argTypes := #[ST, ST] }) (hs : a.eval s = v) (hr : GV enc k T W B v xs)
  (ay : Option Addr) (cy : Nat) (hy : a.eval y = .slice ay ys.length cy) (hyr : RowIn enc W ay ys) (hl : xs.length + ys.length ≤ 1000000) (hB : B ≤ W.heap.size)
  (h : ∀ v' w', GV enc k T w' B v' (xs ++ ys) → Below B W w' → W.grownBy w' v.ownBlock ∨ w' = W → wpList Tryz.prog ops Q rest (a.put o.dst v') w') : wpList Tryz.prog ops Q (o :: rest) a W := by
 unfold wpList
 rw [if_pos (by simp [Region.wanted, hgd])]
 exact .inl (gvs_wp hk he k0 kb hzs hinfo hu ys hgd s y ho hs hr ay cy hy hyr hl hB h)
end
def senc (s : ByteArray) : List Value := [.string s]
theorem senc_len (s : ByteArray) : (senc s).length = 1 := rfl
theorem senc_one (s : ByteArray) : ∀ u ∈ senc s, u.oneCell' = true := by
 intro u hu
 simp only [senc, List.mem_cons, List.not_mem_nil, or_false] at hu
 rw [hu]
 rfl
theorem str_info : (Tryz.prog.info? 9).map (fun i => (i.zero, i.size, i.bytes)) = some (some (.string { data := #[] }), 1, 16) := by kernel_rfl
abbrev SV (W : World) (B : Nat) (v : Value) (l : List ByteArray) : Prop := GV senc 1 9 W B v l
theorem app_str {ops : Array Oper} {rest : List Oper} {o : Oper} {a : Act} {Q : Exit → Act → World → Prop} {W : World} {B : Nat} {v : Value} {xs : List ByteArray} (x : ByteArray) (hgd : o.guard = none) (s y : Operand)
  (ho : o.op = .call { callee := .builtin .append, args := #[s, y], argTypes := #[206, 206] }) (hs : a.eval s = v) (hr : SV W B v xs)
  (hy : a.eval y = .slice (some ⟨W.heap.size, 0, none⟩) 1 1) (hl : xs.length ≤ 1000000) (hB : B ≤ W.heap.size)
  (h : ∀ v' w', SV w' B v' (xs ++ [x]) → (W.alloc (.cells #[.string x] 9)).grownBy w' v.ownBlock → (v'.ownBlock = v.ownBlock ∨ v'.ownBlock = some (W.heap.size + 1)) → wpList Tryz.prog ops Q rest (a.put o.dst v') w') :
  wpList Tryz.prog ops Q (o :: rest) a (W.alloc (.cells #[.string x] 9)) :=
 app_gv senc_len senc_one (by decide) (by decide) rfl str_info Tryz.underlying206 x hgd s y ho hs hr hy hl hB h
theorem apps_str {ops : Array Oper} {rest : List Oper} {o : Oper} {a : Act} {Q : Exit → Act → World → Prop} {W : World} {B : Nat} {v : Value} {xs : List ByteArray} (ys : List ByteArray) (hgd : o.guard = none) (s y : Operand)
  (ho : o.op = .call { callee := .builtin .append, args := #[s, y], argTypes := #[206, 206] }) (hs : a.eval s = v) (hr : SV W B v xs)
  (ay : Option Addr) (cy : Nat) (hy : a.eval y = .slice ay ys.length cy) (hyr : RowIn senc W ay ys) (hl : xs.length + ys.length ≤ 1000000) (hB : B ≤ W.heap.size)
  (h : ∀ v' w', SV w' B v' (xs ++ ys) → Below B W w' → W.grownBy w' v.ownBlock ∨ w' = W → wpList Tryz.prog ops Q rest (a.put o.dst v') w') : wpList Tryz.prog ops Q (o :: rest) a W :=
 gvs_list senc_len senc_one (by decide) (by decide) rfl str_info Tryz.underlying206 ys hgd s y ho hs hr ay cy hy hyr hl hB h
end Go.Proofs.YtjhpiclnpmdjnaaGreatDoor.Sr
namespace Go.Proofs.YtjhpiclnpmdjnaaGreatDoor.Bm
open Go Go.RowKit
open Go.Proofs.YtjhpiclnpmdjnaaGreatDoor
open Go.Proofs.YtjhpiclnpmdjnaaGreatDoor.Ln (flat flat_len flat_get flat_mem RowIn OwnR Idx bl2 results2_cell Blk_setRow_same Blk_setRow_ne Below_setRow)
set_option linter.unusedSimpArgs false
set_option linter.unusedVariables false
set_option maxRecDepth 100000
def XpR (w : World) (e : Xp) (g : Nat) (s0 s : Value) (W : World) : Prop := ∃ k : Nat, k + g = e.l.length ∧ s = .int .i64 k ∧ (∃ n : Int, s0 = .int .i64 n) ∧ Bk.Blk W w.heap.size #[.int .i64 (e).op, .int .i64 (e).n, .string (e).s, .slice (e).a (e).l.length (e).k] 139 ∧ Below w.heap.size w W
open Go.Proofs.YtjhpiclnpmdjnaaGreatDoor.Sr (GV ienc ienc_len grown_below grown_blk)
theorem row_lt {W : World} {a : Option Addr} {xs : List En} (h : RowIn enenc W a xs) (h0 : 0 < xs.length) (ad : Addr) (ha : a = some ad) : ad.block < W.heap.size := by
 obtain ⟨b, off, he, hc⟩ := rowat enenc_len h h0
 rw [ha] at he
 cases he
 exact World.block_lt_of_cell? _ _ (hc 0 h0 0 _ rfl)
theorem row_grown {W W' : World} {a : Option Addr} {xs : List En} {cells : Array Value} {T : TypeId} {row : Option Nat} (h : RowIn enenc W a xs) (hg : (W.alloc (.cells cells T)).grownBy W' row) (hne : 0 < xs.length → ∀ ad, a = some ad → ∀ j, row = some j → ad.block ≠ j) : RowIn enenc W' a xs := fun h0 => by
 have hlt := row_lt h h0
 exact (Ln.RowIn.blk h (fun ad had => (hg.block ad.block (by have := hlt ad had; simp; omega) (fun e => hne h0 ad had _ e.symm rfl)).trans (show (W.heap.push _)[ad.block]? = _ by rw [Array.getElem?_push, if_neg (Nat.ne_of_lt (hlt ad had))]))) h0
def DJ (N : Nat) (B : Bo) (v : Value) : Prop := 0 < B.js.length → ∀ ad, B.ja = some ad → (∀ j, v.ownBlock = some j → ad.block ≠ j) ∧ ad.block ≠ N ∧ ad.block ≠ N + 1
theorem rowin_blk' {W W' : World} {a : Option Addr} {xs : List En} (h : RowIn enenc W a xs) (hb : 0 < xs.length → ∀ ad, a = some ad → W'.heap[ad.block]? = W.heap[ad.block]?) : RowIn enenc W' a xs := fun h0 => (Ln.RowIn.blk h (hb h0)) h0
theorem Btc.moved {W W' : World} {B0 B : Bo} {m : List En} {k : Nat} {cs : List Int} (h : Btc W B0 B m k cs) (h0 : BoIn W' B0) (hj : RowIn enenc W' B.ja B.js) : Btc W' B0 B m k cs :=
 ⟨h.st, h.ex, ⟨(show RowIn cuenc W' B.ua B.us by rw [h.ad.1, h.st.1]; exact h0.u), (show RowIn glenc W' B.ga B.gs by rw [h.ad.2.1, h.st.2.1]; exact h0.g), (show RowIn pdenc W' B.pa B.ps by rw [h.ad.2.2.1, h.st.2.2.1]; exact h0.p), (show RowIn acenc W' B.aa B.as by rw [h.ad.2.2.2, h.st.2.2.2]; exact h0.a), hj, h.bo.n⟩, h.ln, h.dd, h.cl, h.sy, h.ad⟩
theorem Btc.grown {N : Nat} {W W' : World} {B0 B : Bo} {m : List En} {k : Nat} {cs : List Int} {cells : Array Value} {T : TypeId} {v v' : Value} (h : Btc W B0 B m k cs) (h0 : BoIn W' B0) (hd : DJ N B v) (hg : (W.alloc (.cells cells T)).grownBy W' v.ownBlock) (ht : v'.ownBlock = v.ownBlock ∨ v'.ownBlock = some (W.heap.size + 1)) : Btc W' B0 B m k cs ∧ DJ N B v' := by
 refine ⟨h.moved h0 (row_grown h.bo.j hg (fun hl ad had => (hd hl ad had).1)), fun hl ad had => ⟨fun j hj => ?_, (hd hl ad had).2⟩⟩
 rcases ht with ht | ht
 ·exact (hd hl ad had).1 j (ht ▸ hj)
 ·have := row_lt h.bo.j hl ad had
  rw [ht] at hj
  cases hj
  omega
theorem gv_setRow {α : Type} {enc : α → List Value} {k : Nat} {T : TypeId} {W : World} {B g : Nat} {v : Value} {xs : List α} {cs : Array Value} (h : GV enc k T W B v xs) (hg : g < B) : GV enc k T (W.setRow g cs) B v xs := by
 obtain ⟨⟨hl, ho⟩, hs⟩ := h
 refine ⟨⟨hl, ?_⟩, hs⟩
 rcases ho with ho | ⟨g', cap, cur, h1, h2, h3, h4⟩
 ·exact .inl ho
 ·exact .inr ⟨g', cap, cur, h1, h2, Blk_setRow_ne h3 (by omega), h4⟩
def EnB (w : World) (e : En) : Prop := EnM e ∧ EnW e ∧ e.au ≠ 0 ∧ RowIn lgenc w e.la e.lg
def BtR (w : World) (B0 : Bo) (m : List En) (g : Nat) (s6 s13 : Value) (W : World) : Prop := ∃ (k : Nat) (B : Bo) (cs : List Int), k + g = m.length ∧ s13 = .int .i64 k ∧ CV W (w.heap.size + 2) s6 cs ∧ Bk.Blk W w.heap.size #[.slice (B).ua (B).us.length (B).uk, .slice (B).ka (B).kn (B).kk, .slice (B).ga (B).gs.length (B).gk, .int .i64 ((B).pl).p0, .int .i64 ((B).pl).p1, .int .i64 ((B).pl).p2, .int .i64 ((B).pl).p3, .int .i64 ((B).pl).p4, .int .i64 ((B).pl).p5, .int .i64 ((B).pl).p6, .int .i64 ((B).pl).p7, .int .i64 ((B).pl).p8, .int .i64 ((B).pl).p9, .int .i64 ((B).pl).p10, .int .i64 ((B).pl).p11, .int .i64 ((B).pl).p12, .int .i64 ((B).pl).p13, .slice (B).pa (B).ps.length (B).pk, .slice (B).aa (B).as.length (B).ak, .slice (B).ja (B).js.length (B).jk, .slice (B).ha (B).hn (B).hk, .slice (B).ba (B).bn (B).bk] 33 ∧ Bk.Blk W (w.heap.size + 1) #[.slice none 0 0, .slice none 0 0, .slice none 0 0, .int .i64 0, .int .i64 0, .int .i64 0, .int .i64 0, .int .i64 0, .int .i64 0, .int .i64 0, .int .i64 0, .int .i64 0, .int .i64 0, .int .i64 0, .int .i64 0, .int .i64 0, .int .i64 0, .slice none 0 0, .slice none 0 0, .slice none 0 0, .slice none 0 0, .slice none 0 0] 33 ∧ Btc W B0 B m k cs ∧ DJ w.heap.size B s6 ∧ Below w.heap.size w W
def BatP (w : World) (B0 : Bo) (m : List En) (e : Ending) (w' : World) : Prop := ∃ (B : Bo) (cs : List Int) (ca : Option Addr) (cc : Nat), e = .returned (.tuple #[(.agg #[.slice (B).ua (B).us.length (B).uk, .slice (B).ka (B).kn (B).kk, .slice (B).ga (B).gs.length (B).gk, .int .i64 ((B).pl).p0, .int .i64 ((B).pl).p1, .int .i64 ((B).pl).p2, .int .i64 ((B).pl).p3, .int .i64 ((B).pl).p4, .int .i64 ((B).pl).p5, .int .i64 ((B).pl).p6, .int .i64 ((B).pl).p7, .int .i64 ((B).pl).p8, .int .i64 ((B).pl).p9, .int .i64 ((B).pl).p10, .int .i64 ((B).pl).p11, .int .i64 ((B).pl).p12, .int .i64 ((B).pl).p13, .slice (B).pa (B).ps.length (B).pk, .slice (B).aa (B).as.length (B).ak, .slice (B).ja (B).js.length (B).jk, .slice (B).ha (B).hn (B).hk, .slice (B).ba (B).bn (B).bk]), .slice ca cs.length cc]) ∧ RowIn ienc w' ca cs ∧ Btc w' B0 B m m.length cs ∧ Below w.heap.size w w'
set_option maxHeartbeats 32000000 in
theorem batch_any (B0 : Bo) (a : Option Addr) (cap : Nat) (m : List En) (w : World) (h : BoIn w B0) (hn : B0.js.length + m.length ≤ 5000) (hr : RowIn enenc w a m) (he : ∀ j, j < m.length → EnB w m[j]!) (ht : Tab w) :
  Calls Tryz.prog 6 #[(.agg #[.slice (B0).ua (B0).us.length (B0).uk, .slice (B0).ka (B0).kn (B0).kk, .slice (B0).ga (B0).gs.length (B0).gk, .int .i64 ((B0).pl).p0, .int .i64 ((B0).pl).p1, .int .i64 ((B0).pl).p2, .int .i64 ((B0).pl).p3, .int .i64 ((B0).pl).p4, .int .i64 ((B0).pl).p5, .int .i64 ((B0).pl).p6, .int .i64 ((B0).pl).p7, .int .i64 ((B0).pl).p8, .int .i64 ((B0).pl).p9, .int .i64 ((B0).pl).p10, .int .i64 ((B0).pl).p11, .int .i64 ((B0).pl).p12, .int .i64 ((B0).pl).p13, .slice (B0).pa (B0).ps.length (B0).pk, .slice (B0).aa (B0).as.length (B0).ak, .slice (B0).ja (B0).js.length (B0).jk, .slice (B0).ha (B0).hn (B0).hk, .slice (B0).ba (B0).bn (B0).bk]), .slice a m.length cap] w (BatP w B0 m) := by
 have HR := Lib.hid hr
 have HN := Lib.hid hn
 have hml : m.length ≤ 5000 := by omega
 have HB := Lib.hid (fun (W : World) (hW : Below w.heap.size w W) => h.later hW)
 have HP := Lib.hid (fun (B : Bo) (j : Nat) (hj : j < m.length) (W : World) (hW : Below w.heap.size w W) (hB : BoIn W B) (hB2 : B.js.length ≤ 5000) => post_any B m[j]! W hB hB2 (he j hj).1 (he j hj).2.1 (he j hj).2.2.1 ((he j hj).2.2.2.later hW) (ht.of hW))
 clear h hn hr he ht
 have cw : Below w.heap.size w ((w.alloc (.cells #[.slice (B0).ua (B0).us.length (B0).uk, .slice (B0).ka (B0).kn (B0).kk, .slice (B0).ga (B0).gs.length (B0).gk, .int .i64 ((B0).pl).p0, .int .i64 ((B0).pl).p1, .int .i64 ((B0).pl).p2, .int .i64 ((B0).pl).p3, .int .i64 ((B0).pl).p4, .int .i64 ((B0).pl).p5, .int .i64 ((B0).pl).p6, .int .i64 ((B0).pl).p7, .int .i64 ((B0).pl).p8, .int .i64 ((B0).pl).p9, .int .i64 ((B0).pl).p10, .int .i64 ((B0).pl).p11, .int .i64 ((B0).pl).p12, .int .i64 ((B0).pl).p13, .slice (B0).pa (B0).ps.length (B0).pk, .slice (B0).aa (B0).as.length (B0).ak, .slice (B0).ja (B0).js.length (B0).jk, .slice (B0).ha (B0).hn (B0).hk, .slice (B0).ba (B0).bn (B0).bk] 33)).alloc (.cells #[.slice none 0 0, .slice none 0 0, .slice none 0 0, .int .i64 0, .int .i64 0, .int .i64 0, .int .i64 0, .int .i64 0, .int .i64 0, .int .i64 0, .int .i64 0, .int .i64 0, .int .i64 0, .int .i64 0, .int .i64 0, .int .i64 0, .int .i64 0, .slice none 0 0, .slice none 0 0, .slice none 0 0, .slice none 0 0, .slice none 0 0] 33)) := Bk.be
 have kb : Bk.Blk ((w.alloc (.cells #[.slice (B0).ua (B0).us.length (B0).uk, .slice (B0).ka (B0).kn (B0).kk, .slice (B0).ga (B0).gs.length (B0).gk, .int .i64 ((B0).pl).p0, .int .i64 ((B0).pl).p1, .int .i64 ((B0).pl).p2, .int .i64 ((B0).pl).p3, .int .i64 ((B0).pl).p4, .int .i64 ((B0).pl).p5, .int .i64 ((B0).pl).p6, .int .i64 ((B0).pl).p7, .int .i64 ((B0).pl).p8, .int .i64 ((B0).pl).p9, .int .i64 ((B0).pl).p10, .int .i64 ((B0).pl).p11, .int .i64 ((B0).pl).p12, .int .i64 ((B0).pl).p13, .slice (B0).pa (B0).ps.length (B0).pk, .slice (B0).aa (B0).as.length (B0).ak, .slice (B0).ja (B0).js.length (B0).jk, .slice (B0).ha (B0).hn (B0).hk, .slice (B0).ba (B0).bn (B0).bk] 33)).alloc (.cells #[.slice none 0 0, .slice none 0 0, .slice none 0 0, .int .i64 0, .int .i64 0, .int .i64 0, .int .i64 0, .int .i64 0, .int .i64 0, .int .i64 0, .int .i64 0, .int .i64 0, .int .i64 0, .int .i64 0, .int .i64 0, .int .i64 0, .int .i64 0, .slice none 0 0, .slice none 0 0, .slice none 0 0, .slice none 0 0, .slice none 0 0] 33)) w.heap.size _ 33 := Bk.Blk.nw20
 have kz : Bk.Blk ((w.alloc (.cells #[.slice (B0).ua (B0).us.length (B0).uk, .slice (B0).ka (B0).kn (B0).kk, .slice (B0).ga (B0).gs.length (B0).gk, .int .i64 ((B0).pl).p0, .int .i64 ((B0).pl).p1, .int .i64 ((B0).pl).p2, .int .i64 ((B0).pl).p3, .int .i64 ((B0).pl).p4, .int .i64 ((B0).pl).p5, .int .i64 ((B0).pl).p6, .int .i64 ((B0).pl).p7, .int .i64 ((B0).pl).p8, .int .i64 ((B0).pl).p9, .int .i64 ((B0).pl).p10, .int .i64 ((B0).pl).p11, .int .i64 ((B0).pl).p12, .int .i64 ((B0).pl).p13, .slice (B0).pa (B0).ps.length (B0).pk, .slice (B0).aa (B0).as.length (B0).ak, .slice (B0).ja (B0).js.length (B0).jk, .slice (B0).ha (B0).hn (B0).hk, .slice (B0).ba (B0).bn (B0).bk] 33)).alloc (.cells #[.slice none 0 0, .slice none 0 0, .slice none 0 0, .int .i64 0, .int .i64 0, .int .i64 0, .int .i64 0, .int .i64 0, .int .i64 0, .int .i64 0, .int .i64 0, .int .i64 0, .int .i64 0, .int .i64 0, .int .i64 0, .int .i64 0, .int .i64 0, .slice none 0 0, .slice none 0 0, .slice none 0 0, .slice none 0 0, .slice none 0 0] 33)) (w.heap.size + 1) _ 33 := Bk.Blk.nw21
 go_enter Tryz.func6, Tryz.ntmps6
 go_upto_region 1 with fail
 generalize ((w.alloc (.cells _ 33)).alloc (.cells _ 33)) = w1 at *
 go_wp2_with fail
 go_loopg [6, 13] m.length (BtR w B0 m)
 case atStart => exact ⟨0, B0, [], by omega, rfl, GV.nil _ _, kb, kz, Btc.nil m (HB.out _ cw), (fun h0 ad had => ⟨fun j hj => (by cases hj), by have := row_lt (HB.out w (Below.refl _ _)).j h0 ad had; omega, by have := row_lt (HB.out w (Below.refl _ _)).j h0 ad had; omega⟩), cw⟩
 case round =>
  clear kb kz cw
  obtain ⟨k, B, cs, hk, rfl, hcv, kb, kz, hbt, hdj, hbr⟩ := hrel
  have HDJ := Lib.hid hdj
  clear hdj
  have HCL := Lib.hid hbt.cl
  by_cases hlt : k < m.length
  ·obtain ⟨b, off, rfl, hc⟩ := rowat enenc_len HR.out (by omega)
   have hm := range_later hbr (hc k hlt)
   clear hc
   have hP := HP.out B k hlt
   obtain ⟨x, hxx⟩ : ∃ x, x = m[k]! := ⟨_, rfl⟩
   rw [← hxx] at hm hP
   have HX := Lib.hid hxx
   have HP' := Lib.hid hP
   clear hxx hP
   have hz1 := hbr.size
   have hkz := kz.lt
   go_upto_region 5 with (first | (refine wpList_load_mid rfl 39 _ rfl _ (off + k * 10) (by first | rfl | simp) ([.int .i64 (x).id, .int .i64 (x).bo, .int .i64 (x).va, .int .i64 (x).ki, .int .i64 (x).au, .int .i64 (x).pe, .string (x).ke, .string (x).tx, .slice (x).la (x).lg.length (x).lk, .int .u64 (x).ch]) _ (hm) Tryz.underlying39 rfl (by kernel_rfl) ?_) | (refine wpList_store_row rfl 39 _ _ rfl _ _ rfl rfl _ _ (Bk.Blk.nw10) (by kernel_rfl) rfl (by simp [Value.oneCell']) ?_))
   have cx : Below wr.heap.size wr ((wr.alloc (.cells #[.int .i64 0, .int .i64 0, .int .i64 0, .int .i64 0, .int .i64 0, .int .i64 0, .string { data := #[] }, .string { data := #[] }, .slice none 0 0, .int .u64 0] 39)).setRow wr.heap.size #[.int .i64 (x).id, .int .i64 (x).bo, .int .i64 (x).va, .int .i64 (x).ki, .int .i64 (x).au, .int .i64 (x).pe, .string (x).ke, .string (x).tx, .slice (x).la (x).lg.length (x).lk, .int .u64 (x).ch]) := Below_setRow ((Below.refl _ _).alloc (Nat.le_refl _) _) (Nat.le_refl _) _
   have ke : Bk.Blk ((wr.alloc (.cells #[.int .i64 0, .int .i64 0, .int .i64 0, .int .i64 0, .int .i64 0, .int .i64 0, .string { data := #[] }, .string { data := #[] }, .slice none 0 0, .int .u64 0] 39)).setRow wr.heap.size #[.int .i64 (x).id, .int .i64 (x).bo, .int .i64 (x).va, .int .i64 (x).ki, .int .i64 (x).au, .int .i64 (x).pe, .string (x).ke, .string (x).tx, .slice (x).la (x).lg.length (x).lk, .int .u64 (x).ch]) wr.heap.size _ 39 := Blk_setRow_same Bk.Blk.nw10
   replace kb := kb.later cx
   replace kz := kz.later cx
   replace hcv := hcv.later cx
   replace hbt := hbt.later cx
   have c2 := bl2 cx hbr
   clear cx hbr hm
   (try simp only [Act.put])
   generalize ((wr.alloc (.cells _ 39)).setRow wr.heap.size _) = w2 at *
   generalize wr.heap.size = g2 at *
   have HOL2 := Lib.hid (fun (j : Nat) hj => (hcv.lt j hj).1)
   have HK2 := Lib.hid kz.lt
   go_wp2_with (first | (refine wpList_load_row rfl 33 _ rfl _ rfl _ _ _ _ (kb) Tryz.underlying33 rfl (by kernel_rfl) ?_) | (refine wpList_load_row rfl 39 _ rfl _ rfl _ _ _ _ (ke) Tryz.underlying39 rfl (by kernel_rfl) ?_))
   refine (HP'.out _ c2 hbt.bo (by have := hbt.ln; have := HN.out; omega)).mono ?_
   rintro e w3 ⟨B', rfl, hok, hb⟩
   have HOK := Lib.hid hok
   replace kb := kb.later hb
   replace kz := kz.later hb
   replace hcv := hcv.later hb
   have HBT := Lib.hid hbt
   have c3 := bl2 hb c2
   have HB3 := Lib.hid hb
   clear hok hb c2 ke hbt
   obtain ⟨pe, hpe⟩ : ∃ p, p = poE ckE B x := ⟨_, rfl⟩
   rw [← hpe] at HOK ⊢
   have HPE := Lib.hid hpe
   clear hpe
   have hz3 := c3.size
   have hk3 := kz.lt
   go_upto_region 6 with ((refine wpList_store_row rfl 33 _ _ rfl _ _ rfl rfl _ _ (Bk.Blk.nw10) (by kernel_rfl) rfl (by simp [Value.oneCell']) ?_))
   have cx : Below w3.heap.size w3 ((w3.alloc (.cells #[.slice none 0 0, .slice none 0 0, .slice none 0 0, .int .i64 0, .int .i64 0, .int .i64 0, .int .i64 0, .int .i64 0, .int .i64 0, .int .i64 0, .int .i64 0, .int .i64 0, .int .i64 0, .int .i64 0, .int .i64 0, .int .i64 0, .int .i64 0, .slice none 0 0, .slice none 0 0, .slice none 0 0, .slice none 0 0, .slice none 0 0] 33)).setRow w3.heap.size #[.slice (B').ua (B').us.length (B').uk, .slice (B').ka (B').kn (B').kk, .slice (B').ga (B').gs.length (B').gk, .int .i64 ((B').pl).p0, .int .i64 ((B').pl).p1, .int .i64 ((B').pl).p2, .int .i64 ((B').pl).p3, .int .i64 ((B').pl).p4, .int .i64 ((B').pl).p5, .int .i64 ((B').pl).p6, .int .i64 ((B').pl).p7, .int .i64 ((B').pl).p8, .int .i64 ((B').pl).p9, .int .i64 ((B').pl).p10, .int .i64 ((B').pl).p11, .int .i64 ((B').pl).p12, .int .i64 ((B').pl).p13, .slice (B').pa (B').ps.length (B').pk, .slice (B').aa (B').as.length (B').ak, .slice (B').ja (B').js.length (B').jk, .slice (B').ha (B').hn (B').hk, .slice (B').ba (B').bn (B').bk]) := Below_setRow ((Below.refl _ _).alloc (Nat.le_refl _) _) (Nat.le_refl _) _
   have k9 : Bk.Blk ((w3.alloc (.cells #[.slice none 0 0, .slice none 0 0, .slice none 0 0, .int .i64 0, .int .i64 0, .int .i64 0, .int .i64 0, .int .i64 0, .int .i64 0, .int .i64 0, .int .i64 0, .int .i64 0, .int .i64 0, .int .i64 0, .int .i64 0, .int .i64 0, .int .i64 0, .slice none 0 0, .slice none 0 0, .slice none 0 0, .slice none 0 0, .slice none 0 0] 33)).setRow w3.heap.size #[.slice (B').ua (B').us.length (B').uk, .slice (B').ka (B').kn (B').kk, .slice (B').ga (B').gs.length (B').gk, .int .i64 ((B').pl).p0, .int .i64 ((B').pl).p1, .int .i64 ((B').pl).p2, .int .i64 ((B').pl).p3, .int .i64 ((B').pl).p4, .int .i64 ((B').pl).p5, .int .i64 ((B').pl).p6, .int .i64 ((B').pl).p7, .int .i64 ((B').pl).p8, .int .i64 ((B').pl).p9, .int .i64 ((B').pl).p10, .int .i64 ((B').pl).p11, .int .i64 ((B').pl).p12, .int .i64 ((B').pl).p13, .slice (B').pa (B').ps.length (B').pk, .slice (B').aa (B').as.length (B').ak, .slice (B').ja (B').js.length (B').jk, .slice (B').ha (B').hn (B').hk, .slice (B').ba (B').bn (B').bk]) w3.heap.size _ 33 := Blk_setRow_same Bk.Blk.nw10
   replace kb := kb.later cx
   replace kz := kz.later cx
   replace hcv := hcv.later cx
   have c4 := bl2 cx c3
   have HB4 := Lib.hid (bl2 cx HB3.out)
   have HC4 := Lib.hid cx
   clear cx c3 HB3
   (try simp only [Act.put])
   generalize ((w3.alloc (.cells _ 33)).setRow w3.heap.size _) = w4 at *
   by_cases hp : pe = 0
   ·obtain ⟨g, la, lk, r, rfl, hge, hrow⟩ := HOK.out hp
    subst hp
    have HRW := Lib.hid (hrow.later HC4.out)
    clear hrow HC4 HOK
    generalize w3.heap.size = g4 at *
    go_upto_region 8 with (first | (refine wpList_load_row rfl 33 _ rfl _ rfl _ _ _ _ (k9) Tryz.underlying33 rfl (by kernel_rfl) ?_) | (refine wpList_store_row rfl 33 _ _ rfl _ _ rfl rfl _ _ (kb) (by kernel_rfl) rfl (by simp [Value.oneCell']) ?_))
    have HGE := Lib.hid hge
    clear hge
    have c5 : Below w.heap.size w (w4.setRow w.heap.size #[.slice ((B.pst g (x.sld ((B.js.length : Int) + 1) la lk r))).ua ((B.pst g (x.sld ((B.js.length : Int) + 1) la lk r))).us.length ((B.pst g (x.sld ((B.js.length : Int) + 1) la lk r))).uk, .slice ((B.pst g (x.sld ((B.js.length : Int) + 1) la lk r))).ka ((B.pst g (x.sld ((B.js.length : Int) + 1) la lk r))).kn ((B.pst g (x.sld ((B.js.length : Int) + 1) la lk r))).kk, .slice ((B.pst g (x.sld ((B.js.length : Int) + 1) la lk r))).ga ((B.pst g (x.sld ((B.js.length : Int) + 1) la lk r))).gs.length ((B.pst g (x.sld ((B.js.length : Int) + 1) la lk r))).gk, .int .i64 (((B.pst g (x.sld ((B.js.length : Int) + 1) la lk r))).pl).p0, .int .i64 (((B.pst g (x.sld ((B.js.length : Int) + 1) la lk r))).pl).p1, .int .i64 (((B.pst g (x.sld ((B.js.length : Int) + 1) la lk r))).pl).p2, .int .i64 (((B.pst g (x.sld ((B.js.length : Int) + 1) la lk r))).pl).p3, .int .i64 (((B.pst g (x.sld ((B.js.length : Int) + 1) la lk r))).pl).p4, .int .i64 (((B.pst g (x.sld ((B.js.length : Int) + 1) la lk r))).pl).p5, .int .i64 (((B.pst g (x.sld ((B.js.length : Int) + 1) la lk r))).pl).p6, .int .i64 (((B.pst g (x.sld ((B.js.length : Int) + 1) la lk r))).pl).p7, .int .i64 (((B.pst g (x.sld ((B.js.length : Int) + 1) la lk r))).pl).p8, .int .i64 (((B.pst g (x.sld ((B.js.length : Int) + 1) la lk r))).pl).p9, .int .i64 (((B.pst g (x.sld ((B.js.length : Int) + 1) la lk r))).pl).p10, .int .i64 (((B.pst g (x.sld ((B.js.length : Int) + 1) la lk r))).pl).p11, .int .i64 (((B.pst g (x.sld ((B.js.length : Int) + 1) la lk r))).pl).p12, .int .i64 (((B.pst g (x.sld ((B.js.length : Int) + 1) la lk r))).pl).p13, .slice ((B.pst g (x.sld ((B.js.length : Int) + 1) la lk r))).pa ((B.pst g (x.sld ((B.js.length : Int) + 1) la lk r))).ps.length ((B.pst g (x.sld ((B.js.length : Int) + 1) la lk r))).pk, .slice ((B.pst g (x.sld ((B.js.length : Int) + 1) la lk r))).aa ((B.pst g (x.sld ((B.js.length : Int) + 1) la lk r))).as.length ((B.pst g (x.sld ((B.js.length : Int) + 1) la lk r))).ak, .slice ((B.pst g (x.sld ((B.js.length : Int) + 1) la lk r))).ja ((B.pst g (x.sld ((B.js.length : Int) + 1) la lk r))).js.length ((B.pst g (x.sld ((B.js.length : Int) + 1) la lk r))).jk, .slice ((B.pst g (x.sld ((B.js.length : Int) + 1) la lk r))).ha ((B.pst g (x.sld ((B.js.length : Int) + 1) la lk r))).hn ((B.pst g (x.sld ((B.js.length : Int) + 1) la lk r))).hk, .slice ((B.pst g (x.sld ((B.js.length : Int) + 1) la lk r))).ba ((B.pst g (x.sld ((B.js.length : Int) + 1) la lk r))).bn ((B.pst g (x.sld ((B.js.length : Int) + 1) la lk r))).bk]) := Below_setRow c4 (Nat.le_refl _) _
    have hgne : g ≠ w.heap.size := by have := HGE.out; have := HK2.out; omega
    have HBT5 : Hid (Btc (w4.setRow w.heap.size #[.slice ((B.pst g (x.sld ((B.js.length : Int) + 1) la lk r))).ua ((B.pst g (x.sld ((B.js.length : Int) + 1) la lk r))).us.length ((B.pst g (x.sld ((B.js.length : Int) + 1) la lk r))).uk, .slice ((B.pst g (x.sld ((B.js.length : Int) + 1) la lk r))).ka ((B.pst g (x.sld ((B.js.length : Int) + 1) la lk r))).kn ((B.pst g (x.sld ((B.js.length : Int) + 1) la lk r))).kk, .slice ((B.pst g (x.sld ((B.js.length : Int) + 1) la lk r))).ga ((B.pst g (x.sld ((B.js.length : Int) + 1) la lk r))).gs.length ((B.pst g (x.sld ((B.js.length : Int) + 1) la lk r))).gk, .int .i64 (((B.pst g (x.sld ((B.js.length : Int) + 1) la lk r))).pl).p0, .int .i64 (((B.pst g (x.sld ((B.js.length : Int) + 1) la lk r))).pl).p1, .int .i64 (((B.pst g (x.sld ((B.js.length : Int) + 1) la lk r))).pl).p2, .int .i64 (((B.pst g (x.sld ((B.js.length : Int) + 1) la lk r))).pl).p3, .int .i64 (((B.pst g (x.sld ((B.js.length : Int) + 1) la lk r))).pl).p4, .int .i64 (((B.pst g (x.sld ((B.js.length : Int) + 1) la lk r))).pl).p5, .int .i64 (((B.pst g (x.sld ((B.js.length : Int) + 1) la lk r))).pl).p6, .int .i64 (((B.pst g (x.sld ((B.js.length : Int) + 1) la lk r))).pl).p7, .int .i64 (((B.pst g (x.sld ((B.js.length : Int) + 1) la lk r))).pl).p8, .int .i64 (((B.pst g (x.sld ((B.js.length : Int) + 1) la lk r))).pl).p9, .int .i64 (((B.pst g (x.sld ((B.js.length : Int) + 1) la lk r))).pl).p10, .int .i64 (((B.pst g (x.sld ((B.js.length : Int) + 1) la lk r))).pl).p11, .int .i64 (((B.pst g (x.sld ((B.js.length : Int) + 1) la lk r))).pl).p12, .int .i64 (((B.pst g (x.sld ((B.js.length : Int) + 1) la lk r))).pl).p13, .slice ((B.pst g (x.sld ((B.js.length : Int) + 1) la lk r))).pa ((B.pst g (x.sld ((B.js.length : Int) + 1) la lk r))).ps.length ((B.pst g (x.sld ((B.js.length : Int) + 1) la lk r))).pk, .slice ((B.pst g (x.sld ((B.js.length : Int) + 1) la lk r))).aa ((B.pst g (x.sld ((B.js.length : Int) + 1) la lk r))).as.length ((B.pst g (x.sld ((B.js.length : Int) + 1) la lk r))).ak, .slice ((B.pst g (x.sld ((B.js.length : Int) + 1) la lk r))).ja ((B.pst g (x.sld ((B.js.length : Int) + 1) la lk r))).js.length ((B.pst g (x.sld ((B.js.length : Int) + 1) la lk r))).jk, .slice ((B.pst g (x.sld ((B.js.length : Int) + 1) la lk r))).ha ((B.pst g (x.sld ((B.js.length : Int) + 1) la lk r))).hn ((B.pst g (x.sld ((B.js.length : Int) + 1) la lk r))).hk, .slice ((B.pst g (x.sld ((B.js.length : Int) + 1) la lk r))).ba ((B.pst g (x.sld ((B.js.length : Int) + 1) la lk r))).bn ((B.pst g (x.sld ((B.js.length : Int) + 1) la lk r))).bk]) B0 (B.pst g (x.sld ((B.js.length : Int) + 1) la lk r)) m (k + 1) (cs ++ [0])) := Lib.hid (by
     have hx := HX.out
     subst hx
     exact HBT.out.yes hlt HN.out HPE.out.symm (HB.out _ c5) (Ln.RowIn.blk HRW.out (fun ad had => setRow_other _ _ _ _ (by cases had; exact hgne))))
    have HDJ5 : Hid (DJ w.heap.size (B.pst g (x.sld ((B.js.length : Int) + 1) la lk r)) _) := Lib.hid (fun _ ad had => by cases had; have := HGE.out; have := HK2.out; exact ⟨fun j hj => by have := HOL2.out j hj; show g ≠ j; omega, by show g ≠ _; omega, by show g ≠ _; omega⟩)
    replace kb : Bk.Blk (w4.setRow w.heap.size #[.slice ((B.pst g (x.sld ((B.js.length : Int) + 1) la lk r))).ua ((B.pst g (x.sld ((B.js.length : Int) + 1) la lk r))).us.length ((B.pst g (x.sld ((B.js.length : Int) + 1) la lk r))).uk, .slice ((B.pst g (x.sld ((B.js.length : Int) + 1) la lk r))).ka ((B.pst g (x.sld ((B.js.length : Int) + 1) la lk r))).kn ((B.pst g (x.sld ((B.js.length : Int) + 1) la lk r))).kk, .slice ((B.pst g (x.sld ((B.js.length : Int) + 1) la lk r))).ga ((B.pst g (x.sld ((B.js.length : Int) + 1) la lk r))).gs.length ((B.pst g (x.sld ((B.js.length : Int) + 1) la lk r))).gk, .int .i64 (((B.pst g (x.sld ((B.js.length : Int) + 1) la lk r))).pl).p0, .int .i64 (((B.pst g (x.sld ((B.js.length : Int) + 1) la lk r))).pl).p1, .int .i64 (((B.pst g (x.sld ((B.js.length : Int) + 1) la lk r))).pl).p2, .int .i64 (((B.pst g (x.sld ((B.js.length : Int) + 1) la lk r))).pl).p3, .int .i64 (((B.pst g (x.sld ((B.js.length : Int) + 1) la lk r))).pl).p4, .int .i64 (((B.pst g (x.sld ((B.js.length : Int) + 1) la lk r))).pl).p5, .int .i64 (((B.pst g (x.sld ((B.js.length : Int) + 1) la lk r))).pl).p6, .int .i64 (((B.pst g (x.sld ((B.js.length : Int) + 1) la lk r))).pl).p7, .int .i64 (((B.pst g (x.sld ((B.js.length : Int) + 1) la lk r))).pl).p8, .int .i64 (((B.pst g (x.sld ((B.js.length : Int) + 1) la lk r))).pl).p9, .int .i64 (((B.pst g (x.sld ((B.js.length : Int) + 1) la lk r))).pl).p10, .int .i64 (((B.pst g (x.sld ((B.js.length : Int) + 1) la lk r))).pl).p11, .int .i64 (((B.pst g (x.sld ((B.js.length : Int) + 1) la lk r))).pl).p12, .int .i64 (((B.pst g (x.sld ((B.js.length : Int) + 1) la lk r))).pl).p13, .slice ((B.pst g (x.sld ((B.js.length : Int) + 1) la lk r))).pa ((B.pst g (x.sld ((B.js.length : Int) + 1) la lk r))).ps.length ((B.pst g (x.sld ((B.js.length : Int) + 1) la lk r))).pk, .slice ((B.pst g (x.sld ((B.js.length : Int) + 1) la lk r))).aa ((B.pst g (x.sld ((B.js.length : Int) + 1) la lk r))).as.length ((B.pst g (x.sld ((B.js.length : Int) + 1) la lk r))).ak, .slice ((B.pst g (x.sld ((B.js.length : Int) + 1) la lk r))).ja ((B.pst g (x.sld ((B.js.length : Int) + 1) la lk r))).js.length ((B.pst g (x.sld ((B.js.length : Int) + 1) la lk r))).jk, .slice ((B.pst g (x.sld ((B.js.length : Int) + 1) la lk r))).ha ((B.pst g (x.sld ((B.js.length : Int) + 1) la lk r))).hn ((B.pst g (x.sld ((B.js.length : Int) + 1) la lk r))).hk, .slice ((B.pst g (x.sld ((B.js.length : Int) + 1) la lk r))).ba ((B.pst g (x.sld ((B.js.length : Int) + 1) la lk r))).bn ((B.pst g (x.sld ((B.js.length : Int) + 1) la lk r))).bk]) w.heap.size #[.slice ((B.pst g (x.sld ((B.js.length : Int) + 1) la lk r))).ua ((B.pst g (x.sld ((B.js.length : Int) + 1) la lk r))).us.length ((B.pst g (x.sld ((B.js.length : Int) + 1) la lk r))).uk, .slice ((B.pst g (x.sld ((B.js.length : Int) + 1) la lk r))).ka ((B.pst g (x.sld ((B.js.length : Int) + 1) la lk r))).kn ((B.pst g (x.sld ((B.js.length : Int) + 1) la lk r))).kk, .slice ((B.pst g (x.sld ((B.js.length : Int) + 1) la lk r))).ga ((B.pst g (x.sld ((B.js.length : Int) + 1) la lk r))).gs.length ((B.pst g (x.sld ((B.js.length : Int) + 1) la lk r))).gk, .int .i64 (((B.pst g (x.sld ((B.js.length : Int) + 1) la lk r))).pl).p0, .int .i64 (((B.pst g (x.sld ((B.js.length : Int) + 1) la lk r))).pl).p1, .int .i64 (((B.pst g (x.sld ((B.js.length : Int) + 1) la lk r))).pl).p2, .int .i64 (((B.pst g (x.sld ((B.js.length : Int) + 1) la lk r))).pl).p3, .int .i64 (((B.pst g (x.sld ((B.js.length : Int) + 1) la lk r))).pl).p4, .int .i64 (((B.pst g (x.sld ((B.js.length : Int) + 1) la lk r))).pl).p5, .int .i64 (((B.pst g (x.sld ((B.js.length : Int) + 1) la lk r))).pl).p6, .int .i64 (((B.pst g (x.sld ((B.js.length : Int) + 1) la lk r))).pl).p7, .int .i64 (((B.pst g (x.sld ((B.js.length : Int) + 1) la lk r))).pl).p8, .int .i64 (((B.pst g (x.sld ((B.js.length : Int) + 1) la lk r))).pl).p9, .int .i64 (((B.pst g (x.sld ((B.js.length : Int) + 1) la lk r))).pl).p10, .int .i64 (((B.pst g (x.sld ((B.js.length : Int) + 1) la lk r))).pl).p11, .int .i64 (((B.pst g (x.sld ((B.js.length : Int) + 1) la lk r))).pl).p12, .int .i64 (((B.pst g (x.sld ((B.js.length : Int) + 1) la lk r))).pl).p13, .slice ((B.pst g (x.sld ((B.js.length : Int) + 1) la lk r))).pa ((B.pst g (x.sld ((B.js.length : Int) + 1) la lk r))).ps.length ((B.pst g (x.sld ((B.js.length : Int) + 1) la lk r))).pk, .slice ((B.pst g (x.sld ((B.js.length : Int) + 1) la lk r))).aa ((B.pst g (x.sld ((B.js.length : Int) + 1) la lk r))).as.length ((B.pst g (x.sld ((B.js.length : Int) + 1) la lk r))).ak, .slice ((B.pst g (x.sld ((B.js.length : Int) + 1) la lk r))).ja ((B.pst g (x.sld ((B.js.length : Int) + 1) la lk r))).js.length ((B.pst g (x.sld ((B.js.length : Int) + 1) la lk r))).jk, .slice ((B.pst g (x.sld ((B.js.length : Int) + 1) la lk r))).ha ((B.pst g (x.sld ((B.js.length : Int) + 1) la lk r))).hn ((B.pst g (x.sld ((B.js.length : Int) + 1) la lk r))).hk, .slice ((B.pst g (x.sld ((B.js.length : Int) + 1) la lk r))).ba ((B.pst g (x.sld ((B.js.length : Int) + 1) la lk r))).bn ((B.pst g (x.sld ((B.js.length : Int) + 1) la lk r))).bk] 33 := Blk_setRow_same kb
    replace kz : Bk.Blk (w4.setRow w.heap.size #[.slice ((B.pst g (x.sld ((B.js.length : Int) + 1) la lk r))).ua ((B.pst g (x.sld ((B.js.length : Int) + 1) la lk r))).us.length ((B.pst g (x.sld ((B.js.length : Int) + 1) la lk r))).uk, .slice ((B.pst g (x.sld ((B.js.length : Int) + 1) la lk r))).ka ((B.pst g (x.sld ((B.js.length : Int) + 1) la lk r))).kn ((B.pst g (x.sld ((B.js.length : Int) + 1) la lk r))).kk, .slice ((B.pst g (x.sld ((B.js.length : Int) + 1) la lk r))).ga ((B.pst g (x.sld ((B.js.length : Int) + 1) la lk r))).gs.length ((B.pst g (x.sld ((B.js.length : Int) + 1) la lk r))).gk, .int .i64 (((B.pst g (x.sld ((B.js.length : Int) + 1) la lk r))).pl).p0, .int .i64 (((B.pst g (x.sld ((B.js.length : Int) + 1) la lk r))).pl).p1, .int .i64 (((B.pst g (x.sld ((B.js.length : Int) + 1) la lk r))).pl).p2, .int .i64 (((B.pst g (x.sld ((B.js.length : Int) + 1) la lk r))).pl).p3, .int .i64 (((B.pst g (x.sld ((B.js.length : Int) + 1) la lk r))).pl).p4, .int .i64 (((B.pst g (x.sld ((B.js.length : Int) + 1) la lk r))).pl).p5, .int .i64 (((B.pst g (x.sld ((B.js.length : Int) + 1) la lk r))).pl).p6, .int .i64 (((B.pst g (x.sld ((B.js.length : Int) + 1) la lk r))).pl).p7, .int .i64 (((B.pst g (x.sld ((B.js.length : Int) + 1) la lk r))).pl).p8, .int .i64 (((B.pst g (x.sld ((B.js.length : Int) + 1) la lk r))).pl).p9, .int .i64 (((B.pst g (x.sld ((B.js.length : Int) + 1) la lk r))).pl).p10, .int .i64 (((B.pst g (x.sld ((B.js.length : Int) + 1) la lk r))).pl).p11, .int .i64 (((B.pst g (x.sld ((B.js.length : Int) + 1) la lk r))).pl).p12, .int .i64 (((B.pst g (x.sld ((B.js.length : Int) + 1) la lk r))).pl).p13, .slice ((B.pst g (x.sld ((B.js.length : Int) + 1) la lk r))).pa ((B.pst g (x.sld ((B.js.length : Int) + 1) la lk r))).ps.length ((B.pst g (x.sld ((B.js.length : Int) + 1) la lk r))).pk, .slice ((B.pst g (x.sld ((B.js.length : Int) + 1) la lk r))).aa ((B.pst g (x.sld ((B.js.length : Int) + 1) la lk r))).as.length ((B.pst g (x.sld ((B.js.length : Int) + 1) la lk r))).ak, .slice ((B.pst g (x.sld ((B.js.length : Int) + 1) la lk r))).ja ((B.pst g (x.sld ((B.js.length : Int) + 1) la lk r))).js.length ((B.pst g (x.sld ((B.js.length : Int) + 1) la lk r))).jk, .slice ((B.pst g (x.sld ((B.js.length : Int) + 1) la lk r))).ha ((B.pst g (x.sld ((B.js.length : Int) + 1) la lk r))).hn ((B.pst g (x.sld ((B.js.length : Int) + 1) la lk r))).hk, .slice ((B.pst g (x.sld ((B.js.length : Int) + 1) la lk r))).ba ((B.pst g (x.sld ((B.js.length : Int) + 1) la lk r))).bn ((B.pst g (x.sld ((B.js.length : Int) + 1) la lk r))).bk]) (w.heap.size + 1) #[.slice none 0 0, .slice none 0 0, .slice none 0 0, .int .i64 0, .int .i64 0, .int .i64 0, .int .i64 0, .int .i64 0, .int .i64 0, .int .i64 0, .int .i64 0, .int .i64 0, .int .i64 0, .int .i64 0, .int .i64 0, .int .i64 0, .int .i64 0, .slice none 0 0, .slice none 0 0, .slice none 0 0, .slice none 0 0, .slice none 0 0] 33 := Blk_setRow_ne kz (by omega)
    replace hcv : CV (w4.setRow w.heap.size #[.slice ((B.pst g (x.sld ((B.js.length : Int) + 1) la lk r))).ua ((B.pst g (x.sld ((B.js.length : Int) + 1) la lk r))).us.length ((B.pst g (x.sld ((B.js.length : Int) + 1) la lk r))).uk, .slice ((B.pst g (x.sld ((B.js.length : Int) + 1) la lk r))).ka ((B.pst g (x.sld ((B.js.length : Int) + 1) la lk r))).kn ((B.pst g (x.sld ((B.js.length : Int) + 1) la lk r))).kk, .slice ((B.pst g (x.sld ((B.js.length : Int) + 1) la lk r))).ga ((B.pst g (x.sld ((B.js.length : Int) + 1) la lk r))).gs.length ((B.pst g (x.sld ((B.js.length : Int) + 1) la lk r))).gk, .int .i64 (((B.pst g (x.sld ((B.js.length : Int) + 1) la lk r))).pl).p0, .int .i64 (((B.pst g (x.sld ((B.js.length : Int) + 1) la lk r))).pl).p1, .int .i64 (((B.pst g (x.sld ((B.js.length : Int) + 1) la lk r))).pl).p2, .int .i64 (((B.pst g (x.sld ((B.js.length : Int) + 1) la lk r))).pl).p3, .int .i64 (((B.pst g (x.sld ((B.js.length : Int) + 1) la lk r))).pl).p4, .int .i64 (((B.pst g (x.sld ((B.js.length : Int) + 1) la lk r))).pl).p5, .int .i64 (((B.pst g (x.sld ((B.js.length : Int) + 1) la lk r))).pl).p6, .int .i64 (((B.pst g (x.sld ((B.js.length : Int) + 1) la lk r))).pl).p7, .int .i64 (((B.pst g (x.sld ((B.js.length : Int) + 1) la lk r))).pl).p8, .int .i64 (((B.pst g (x.sld ((B.js.length : Int) + 1) la lk r))).pl).p9, .int .i64 (((B.pst g (x.sld ((B.js.length : Int) + 1) la lk r))).pl).p10, .int .i64 (((B.pst g (x.sld ((B.js.length : Int) + 1) la lk r))).pl).p11, .int .i64 (((B.pst g (x.sld ((B.js.length : Int) + 1) la lk r))).pl).p12, .int .i64 (((B.pst g (x.sld ((B.js.length : Int) + 1) la lk r))).pl).p13, .slice ((B.pst g (x.sld ((B.js.length : Int) + 1) la lk r))).pa ((B.pst g (x.sld ((B.js.length : Int) + 1) la lk r))).ps.length ((B.pst g (x.sld ((B.js.length : Int) + 1) la lk r))).pk, .slice ((B.pst g (x.sld ((B.js.length : Int) + 1) la lk r))).aa ((B.pst g (x.sld ((B.js.length : Int) + 1) la lk r))).as.length ((B.pst g (x.sld ((B.js.length : Int) + 1) la lk r))).ak, .slice ((B.pst g (x.sld ((B.js.length : Int) + 1) la lk r))).ja ((B.pst g (x.sld ((B.js.length : Int) + 1) la lk r))).js.length ((B.pst g (x.sld ((B.js.length : Int) + 1) la lk r))).jk, .slice ((B.pst g (x.sld ((B.js.length : Int) + 1) la lk r))).ha ((B.pst g (x.sld ((B.js.length : Int) + 1) la lk r))).hn ((B.pst g (x.sld ((B.js.length : Int) + 1) la lk r))).hk, .slice ((B.pst g (x.sld ((B.js.length : Int) + 1) la lk r))).ba ((B.pst g (x.sld ((B.js.length : Int) + 1) la lk r))).bn ((B.pst g (x.sld ((B.js.length : Int) + 1) la lk r))).bk]) (w.heap.size + 2) _ cs := gv_setRow hcv (by omega)
    (try simp only [Act.put])
    generalize (w4.setRow w.heap.size #[.slice ((B.pst g (x.sld ((B.js.length : Int) + 1) la lk r))).ua ((B.pst g (x.sld ((B.js.length : Int) + 1) la lk r))).us.length ((B.pst g (x.sld ((B.js.length : Int) + 1) la lk r))).uk, .slice ((B.pst g (x.sld ((B.js.length : Int) + 1) la lk r))).ka ((B.pst g (x.sld ((B.js.length : Int) + 1) la lk r))).kn ((B.pst g (x.sld ((B.js.length : Int) + 1) la lk r))).kk, .slice ((B.pst g (x.sld ((B.js.length : Int) + 1) la lk r))).ga ((B.pst g (x.sld ((B.js.length : Int) + 1) la lk r))).gs.length ((B.pst g (x.sld ((B.js.length : Int) + 1) la lk r))).gk, .int .i64 (((B.pst g (x.sld ((B.js.length : Int) + 1) la lk r))).pl).p0, .int .i64 (((B.pst g (x.sld ((B.js.length : Int) + 1) la lk r))).pl).p1, .int .i64 (((B.pst g (x.sld ((B.js.length : Int) + 1) la lk r))).pl).p2, .int .i64 (((B.pst g (x.sld ((B.js.length : Int) + 1) la lk r))).pl).p3, .int .i64 (((B.pst g (x.sld ((B.js.length : Int) + 1) la lk r))).pl).p4, .int .i64 (((B.pst g (x.sld ((B.js.length : Int) + 1) la lk r))).pl).p5, .int .i64 (((B.pst g (x.sld ((B.js.length : Int) + 1) la lk r))).pl).p6, .int .i64 (((B.pst g (x.sld ((B.js.length : Int) + 1) la lk r))).pl).p7, .int .i64 (((B.pst g (x.sld ((B.js.length : Int) + 1) la lk r))).pl).p8, .int .i64 (((B.pst g (x.sld ((B.js.length : Int) + 1) la lk r))).pl).p9, .int .i64 (((B.pst g (x.sld ((B.js.length : Int) + 1) la lk r))).pl).p10, .int .i64 (((B.pst g (x.sld ((B.js.length : Int) + 1) la lk r))).pl).p11, .int .i64 (((B.pst g (x.sld ((B.js.length : Int) + 1) la lk r))).pl).p12, .int .i64 (((B.pst g (x.sld ((B.js.length : Int) + 1) la lk r))).pl).p13, .slice ((B.pst g (x.sld ((B.js.length : Int) + 1) la lk r))).pa ((B.pst g (x.sld ((B.js.length : Int) + 1) la lk r))).ps.length ((B.pst g (x.sld ((B.js.length : Int) + 1) la lk r))).pk, .slice ((B.pst g (x.sld ((B.js.length : Int) + 1) la lk r))).aa ((B.pst g (x.sld ((B.js.length : Int) + 1) la lk r))).as.length ((B.pst g (x.sld ((B.js.length : Int) + 1) la lk r))).ak, .slice ((B.pst g (x.sld ((B.js.length : Int) + 1) la lk r))).ja ((B.pst g (x.sld ((B.js.length : Int) + 1) la lk r))).js.length ((B.pst g (x.sld ((B.js.length : Int) + 1) la lk r))).jk, .slice ((B.pst g (x.sld ((B.js.length : Int) + 1) la lk r))).ha ((B.pst g (x.sld ((B.js.length : Int) + 1) la lk r))).hn ((B.pst g (x.sld ((B.js.length : Int) + 1) la lk r))).hk, .slice ((B.pst g (x.sld ((B.js.length : Int) + 1) la lk r))).ba ((B.pst g (x.sld ((B.js.length : Int) + 1) la lk r))).bn ((B.pst g (x.sld ((B.js.length : Int) + 1) la lk r))).bk]) = w5 at *
    generalize (B.pst g (x.sld ((B.js.length : Int) + 1) la lk r)) = B5 at *
    have hz5 := c5.size
    have hk5 := kz.lt
    clear c4 k9 hgne HRW HGE
    go_wp2_with (at_builtin; refine app_cd 0 rfl _ _ rfl rfl hcv rfl (by have := HCL.out; omega) (by omega) ?_)
    intro v' w6 hcv' hgr hat
    have c6 : Below w.heap.size w w6 := (c5.alloc hz5 _).grown hgr (by simp; omega) (fun j hj => by have := (hcv.lt j hj).2; omega)
    replace kb := grown_blk kb hgr (fun e => by have := (hcv.lt _ e).2; omega)
    replace kz := grown_blk kz hgr (fun e => by have := (hcv.lt _ e).2; omega)
    have HBT6 := Lib.hid ((HBT5.out).grown (HB.out _ c6) HDJ5.out hgr hat)
    have HCV := Lib.hid hcv'
    clear hcv hcv' hgr hat c5 hz5
    go_wp2_with fail
    go_roundg (gk - 1)
    case measure => omega
    case rel => exact ⟨k + 1, _, _, by omega, by go_num, HCV.out, kb, kz, HBT6.out.1, HBT6.out.2, c6⟩
   ·have HP0 := Lib.hid hp
    have g1 : (pe == 0) = false := beq_eq_false_iff_ne.2 hp
    clear hp
    generalize w3.heap.size = g4 at *
    have hz5 := c4.size
    have hk5 := kz.lt
    go_wp2_with (at_builtin; refine app_cd pe rfl _ _ rfl rfl hcv rfl (by have := HCL.out; omega) (by omega) ?_)
    intro v' w6 hcv' hgr hat
    have c6 : Below w.heap.size w w6 := (c4.alloc hz5 _).grown hgr (by simp; omega) (fun j hj => by have := (hcv.lt j hj).2; omega)
    replace kb := grown_blk kb hgr (fun e => by have := (hcv.lt _ e).2; omega)
    replace kz := grown_blk kz hgr (fun e => by have := (hcv.lt _ e).2; omega)
    have HBT6 := Lib.hid (((HBT.out.later HB4.out).no (HX.out ▸ HPE.out.symm) HP0.out).grown (HB.out _ c6) HDJ.out hgr hat)
    have HCV := Lib.hid hcv'
    clear hcv hcv' hgr hat c4 hz5
    go_wp2_with fail
    go_roundg (gk - 1)
    case measure => omega
    case rel => exact ⟨k + 1, _, _, by omega, by go_num, HCV.out, kb, kz, HBT6.out.1, HBT6.out.2, c6⟩
  ·have hke : k = m.length := by omega
   have HK := Lib.hid hke
   clear hke
   have hown := hcv.lt
   obtain ⟨ca, cc, rfl, hcr, hcb⟩ := hcv.row
   have HCR := Lib.hid hcr
   have HCB := Lib.hid hcb
   have HBT := Lib.hid hbt
   clear hcr hcb hcv hbt hown
   go_wp2_with (first | (refine wpList_load_row rfl 33 _ rfl _ rfl _ _ _ _ (kb) Tryz.underlying33 rfl (by kernel_rfl) ?_) | (refine wpList_store_row rfl 33 _ _ rfl _ _ rfl rfl _ _ (kz) (by kernel_rfl) rfl (by simp [Value.oneCell']) ?_))
   (try simp only [Exit.inBlock, Exit.then])
   refine bodyPost_ret (results2_cell Tryz.results6 _ _ _ _ _ _ _ rfl (Blk_setRow_same kz) Tryz.underlying33 rfl (by kernel_rfl)) rfl ?_
   have c9 : Below w.heap.size w (wr.setRow (w.heap.size + 1) #[.slice (B).ua (B).us.length (B).uk, .slice (B).ka (B).kn (B).kk, .slice (B).ga (B).gs.length (B).gk, .int .i64 ((B).pl).p0, .int .i64 ((B).pl).p1, .int .i64 ((B).pl).p2, .int .i64 ((B).pl).p3, .int .i64 ((B).pl).p4, .int .i64 ((B).pl).p5, .int .i64 ((B).pl).p6, .int .i64 ((B).pl).p7, .int .i64 ((B).pl).p8, .int .i64 ((B).pl).p9, .int .i64 ((B).pl).p10, .int .i64 ((B).pl).p11, .int .i64 ((B).pl).p12, .int .i64 ((B).pl).p13, .slice (B).pa (B).ps.length (B).pk, .slice (B).aa (B).as.length (B).ak, .slice (B).ja (B).js.length (B).jk, .slice (B).ha (B).hn (B).hk, .slice (B).ba (B).bn (B).bk]) := Below_setRow hbr (by omega) _
   refine ⟨B, cs, ca, cc, rfl, Ln.RowIn.blk HCR.out (fun ad had => setRow_other _ _ _ _ (fun e => by have := HCB.out ad had; omega)), ?_, c9⟩
   rw [← HK.out]
   exact HBT.out.moved (HB.out _ c9) (rowin_blk' HBT.out.bo.j (fun h0 ad had => setRow_other _ _ _ _ (fun e => (HDJ.out h0 ad had).2.2 e)))
end Go.Proofs.YtjhpiclnpmdjnaaGreatDoor.Bm
