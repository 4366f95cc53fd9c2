/-
  Parts of the proof: Obk, Xpp, Wkp, Typ, Btp, Apn.
-/
import Derived.Test.YtjhpiclnpmdjnaaGreatDoorQ20
import Derived.Test.YtjhpiclnpmdjnaaGreatDoorQ22
import Derived.Test.YtjhpiclnpmdjnaaGreatDoorQ13
import Derived.Test.YtjhpiclnpmdjnaaGreatDoorQ23
import Derived.Test.YtjhpiclnpmdjnaaGreatDoorQ05
namespace Go.Proofs.YtjhpiclnpmdjnaaGreatDoor.Bm
open Go Go.ChangeShapes Go.WideShapes Go.ChangeAt Go.RowKit
open Go.Proofs.YtjhpiclnpmdjnaaGreatDoor
open Go.Proofs.YtjhpiclnpmdjnaaGreatDoor.Ln (flat flat_len flat_get flat_mem RowIn)
open Go.Proofs.YtjhpiclnpmdjnaaGreatDoor.Kl (Cl CalIn)
set_option linter.unusedSimpArgs false
set_option linter.unusedVariables false
set_option maxRecDepth 100000
inductive Xp where
 | mk (op n : Int) (s : ByteArray) (a : Option Addr) (k : Nat) (l : List Xp)
instance : Inhabited Xp := ⟨.mk 0 0 .empty none 0 []⟩
def Xp.op : Xp → Int | .mk a _ _ _ _ _ => a
def Xp.n : Xp → Int | .mk _ a _ _ _ _ => a
def Xp.s : Xp → ByteArray | .mk _ _ a _ _ _ => a
def Xp.a : Xp → Option Addr | .mk _ _ _ a _ _ => a
def Xp.k : Xp → Nat | .mk _ _ _ _ a _ => a
def Xp.l : Xp → List Xp | .mk _ _ _ _ _ a => a
def xpenc (e : Xp) : List Value := [.int .i64 e.op, .int .i64 e.n, .string e.s, .slice e.a e.l.length e.k]
theorem xpenc_len (e : Xp) : (xpenc e).length = 4 := rfl
inductive XpIn (W : World) : Xp → Prop where
 | mk {op n : Int} {s : ByteArray} {a : Option Addr} {k : Nat} {l : List Xp} (hs : s.size ≤ maxLen) (hl : l.length ≤ maxLen) (hr : RowIn xpenc W a l) (he : ∀ x ∈ l, XpIn W x) : XpIn W (.mk op n s a k l)
theorem XpIn.later {W W' : World} {e : Xp} (h : XpIn W e) (hb : Below W.heap.size W W') : XpIn W' e := by
 induction h with
 | mk hs hl hr he ih => exact .mk hs hl (hr.later hb) ih
structure Ti where
 (fr pp : Int)
structure Fe where
 (nm : ByteArray) (ev : Int) (wh am : Xp)
structure Ru where
 (nm : ByteArray) (wi : Int) (am : Xp)
structure Hd where
 (id ac am fr too : Int) (ke : ByteArray)
structure Bl where
 (id ac ki am fr too : Int) (so : ByteArray)
structure ClS where
 (c : Cl) (wa ha : Option Addr) (wc hc : Nat)
instance : Inhabited Ti := ⟨⟨0, 0⟩⟩
instance : Inhabited Fe := ⟨⟨.empty, 0, default, default⟩⟩
instance : Inhabited Ru := ⟨⟨.empty, 0, default⟩⟩
instance : Inhabited Hd := ⟨⟨0, 0, 0, 0, 0, .empty⟩⟩
instance : Inhabited Bl := ⟨⟨0, 0, 0, 0, 0, 0, .empty⟩⟩
instance : Inhabited ClS := ⟨⟨⟨.empty, [], []⟩, none, none, 0, 0⟩⟩
def tienc (x : Ti) : List Value := [.int .i64 x.fr, .int .i64 x.pp]
def feenc (x : Fe) : List Value := [.string x.nm, .int .i64 x.ev] ++ xpenc x.wh ++ xpenc x.am
def ruenc (x : Ru) : List Value := [.string x.nm, .int .i64 x.wi] ++ xpenc x.am
def hdenc (x : Hd) : List Value := [.int .i64 x.id, .int .i64 x.ac, .int .i64 x.am, .int .i64 x.fr, .int .i64 x.too, .string x.ke]
def blenc (x : Bl) : List Value := [.int .i64 x.id, .int .i64 x.ac, .int .i64 x.ki, .int .i64 x.am, .int .i64 x.fr, .int .i64 x.too, .string x.so]
def clenc (x : ClS) : List Value := [.string x.c.nm, .slice x.wa x.c.wk.length x.wc, .slice x.ha x.c.hol.length x.hc]
theorem tienc_len (x : Ti) : (tienc x).length = 2 := rfl
theorem feenc_len (x : Fe) : (feenc x).length = 10 := rfl
theorem ruenc_len (x : Ru) : (ruenc x).length = 6 := rfl
theorem hdenc_len (x : Hd) : (hdenc x).length = 6 := rfl
theorem blenc_len (x : Bl) : (blenc x).length = 7 := rfl
theorem clenc_len (x : ClS) : (clenc x).length = 3 := rfl
structure ItIn (W : World) (x : It) : Prop where
 t : ∃ l : List Ti, RowIn tienc W x.ta l ∧ x.tn = l.length ∧ l.length ≤ maxLen
structure PdIn (W : World) (p : Pd) : Prop where
 nm : p.nm.size ≤ maxLen
 cu : p.cu.size ≤ maxLen
 ca : p.ca.size ≤ maxLen
 ci : ItIn W p.ci
 di : ItIn W p.di
 fe : ∃ l : List Fe, RowIn feenc W p.fa l ∧ p.fn = l.length ∧ l.length ≤ maxLen ∧ ∀ x ∈ l, x.nm.size ≤ maxLen ∧ XpIn W x.wh ∧ XpIn W x.am
 ru : ∃ l : List Ru, RowIn ruenc W p.ra l ∧ p.rn = l.length ∧ l.length ≤ maxLen ∧ ∀ x ∈ l, x.nm.size ≤ maxLen ∧ XpIn W x.am
structure EnIn (W : World) (e : En) : Prop where
 m : e.ke.size ≤ maxLen ∧ e.tx.size ≤ maxLen ∧ e.lg.length ≤ maxLen ∧ ∀ x ∈ e.lg, x.cu.size ≤ maxLen
 w : EnW e
 l : RowIn lgenc W e.la e.lg
theorem ItIn.later {W W' : World} {x : It} (h : ItIn W x) (hb : Below W.heap.size W W') : ItIn W' x := by
 obtain ⟨l, h1, h2⟩ := h.t
 exact ⟨⟨l, h1.later hb, h2⟩⟩
theorem PdIn.later {W W' : World} {p : Pd} (h : PdIn W p) (hb : Below W.heap.size W W') : PdIn W' p := by
 obtain ⟨l, h1, h2, h3, h4⟩ := h.fe
 obtain ⟨l', k1, k2, k3, k4⟩ := h.ru
 exact ⟨h.nm, h.cu, h.ca, h.ci.later hb, h.di.later hb, ⟨l, h1.later hb, h2, h3, fun x hx => ⟨(h4 x hx).1, (h4 x hx).2.1.later hb, (h4 x hx).2.2.later hb⟩⟩, ⟨l', k1.later hb, k2, k3, fun x hx => ⟨(k4 x hx).1, (k4 x hx).2.later hb⟩⟩⟩
theorem EnIn.later {W W' : World} {e : En} (h : EnIn W e) (hb : Below W.heap.size W W') : EnIn W' e := ⟨h.m, h.w, h.l.later hb⟩
theorem EnIn.em {W : World} {e : En} (h : EnIn W e) (hl : e.lg.length ≤ 9223372036854775807) : EnM e := ⟨h.m.1, h.m.2.1, fun j hj => h.m.2.2.2 _ (by rw [getElem!_pos e.lg j hj]; exact List.getElem_mem hj), hl⟩
structure BkIn (W : World) (B : Bo) : Prop where
 u : RowIn cuenc W B.ua B.us ∧ B.us.length ≤ maxLen ∧ ∀ x ∈ B.us, x.cd.size ≤ maxLen
 k : ∃ l : List ClS, RowIn clenc W B.ka l ∧ B.kn = l.length ∧ l.length ≤ maxLen ∧ ∀ x ∈ l, CalIn W x.c x.wa x.ha
 g : RowIn glenc W B.ga B.gs ∧ B.gs.length ≤ maxLen ∧ ∀ x ∈ B.gs, x.nm.size ≤ maxLen
 p : RowIn pdenc W B.pa B.ps ∧ B.ps.length ≤ maxLen ∧ ∀ x ∈ B.ps, PdIn W x
 a : RowIn acenc W B.aa B.as ∧ B.as.length ≤ maxLen ∧ ∀ x ∈ B.as, x.ow.size ≤ maxLen ∧ x.pr.size ≤ maxLen ∧ x.nu.size ≤ maxLen
 j : RowIn enenc W B.ja B.js ∧ B.js.length ≤ maxLen ∧ ∀ x ∈ B.js, EnIn W x
 h : ∃ l : List Hd, RowIn hdenc W B.ha l ∧ B.hn = l.length ∧ l.length ≤ maxLen ∧ ∀ x ∈ l, x.ke.size ≤ maxLen
 b : ∃ l : List Bl, RowIn blenc W B.ba l ∧ B.bn = l.length ∧ l.length ≤ maxLen ∧ ∀ x ∈ l, x.so.size ≤ maxLen
 c : B.gs.length ≤ B.gk ∧ B.js.length ≤ B.jk ∧ B.hn ≤ B.hk
theorem BkIn.later {W W' : World} {B : Bo} (h : BkIn W B) (hb : Below W.heap.size W W') : BkIn W' B := by
 obtain ⟨lk, k1, k2, k3, k4⟩ := h.k
 obtain ⟨lh, h1, h2⟩ := h.h
 obtain ⟨lb, b1, b2⟩ := h.b
 exact ⟨⟨h.u.1.later hb, h.u.2⟩, ⟨lk, k1.later hb, k2, k3, fun x hx => CalIn.later hb (k4 x hx)⟩, ⟨h.g.1.later hb, h.g.2⟩, ⟨h.p.1.later hb, h.p.2.1, fun x hx => (h.p.2.2 x hx).later hb⟩, ⟨h.a.1.later hb, h.a.2⟩, ⟨h.j.1.later hb, h.j.2.1, fun x hx => (h.j.2.2 x hx).later hb⟩, ⟨lh, h1.later hb, h2⟩, ⟨lb, b1.later hb, b2⟩, h.c⟩
section
variable {H : Type} {ec : TypeId × Value → H} {w : World} {base : Nat} {spare : Nat → Bool} {held : Bool} {m : Nat} {x : DataW H × List MemPlace}
open Go.Proofs.YtjhpiclnpmdjnaaGreatDoor.Ol (fI fS cI cS open_row list_of wf_bd)
theorem cap_of {P : Program} {t e : TypeId} {fuel n k : Nat} {a : Option Addr} {x : DataW H × List MemPlace} (ht : P.underlying t = some (.slice e)) (h : DataW.trod ec P w base spare held fuel t [.slice a n k] = some x) : n ≤ k := by
 rcases DataW.trod_slice ht h with ⟨e1, _⟩ | ⟨a', len, cap, elems, rest, m, hm, e1, rfl, hb, hl, _⟩
 ·obtain ⟨_, rfl, rfl⟩ := by simpa using e1
  exact Nat.le_refl _
 ·obtain ⟨_, rfl, rfl⟩ := by simpa using e1
  exact hl
theorem open_row_lt {α : Type} [Inhabited α] {enc : α → List Value} {k : Nat} {Q : α → Prop} {P : Program} {t e : TypeId} {fuel : Nat} {cs : List Value} {x : DataW H × List MemPlace} (hk : ∀ x, (enc x).length = k) (k0 : 0 < k) (hC : P.cellsOf e = k)
  (hel : ∀ (m : Nat), m < fuel → ∀ (cs : List Value) (y : DataW H × List MemPlace), DataW.trod ec P w base spare held m e cs = some y → ∃ x, cs = enc x ∧ Q x) (ht : P.underlying t = some (.slice e)) (h : DataW.trod ec P w base spare held fuel t cs = some x) :
  ∃ (a : Option Addr) (cap : Nat) (xs : List α), cs = [.slice a xs.length cap] ∧ xs.length ≤ maxLen ∧ RowIn enc w a xs ∧ ∀ x ∈ xs, Q x := by
 rcases DataW.trod_slice ht h with ⟨rfl, _⟩ | ⟨a, len, cap, elems, rest, n, hn, rfl, rfl, hb, hl, hm, hlen, hele, _, _⟩
 ·exact ⟨none, 0, [], rfl, Nat.zero_le _, fun h => absurd h (Nat.not_lt_zero _), fun x hx => by cases hx⟩
 ·obtain ⟨xs, hxl, hx⟩ := list_of (fun i (x : α) => (∀ j, j < k → w.cell? (a.add (i * k + j)) = (enc x)[j]?) ∧ Q x) len fun i hil => by
   have key := hele i hil
   rw [List.getElem?_eq_getElem (by omega)] at key
   obtain ⟨cs', hc, hd⟩ := Option.bind_eq_some_iff.1 key
   obtain ⟨y, rfl, hq⟩ := hel n (by omega) _ _ hd
   rw [hC] at hc
   obtain ⟨_, _, hcell⟩ := World.cells?_some hc
   exact ⟨y, fun j hj => by rw [← Deep.add_add]; exact hcell j hj, hq⟩
  refine ⟨some a, cap, xs, by rw [hxl], by omega, fun h0 => ?_, fun y hy => ?_⟩
  ·obtain ⟨b, off, spot⟩ := a
   have hspot : spot = none := by
    have hv : (enc xs[0]!)[0]? = some ((enc xs[0]!)[0]'(by rw [hk]; exact k0)) := List.getElem?_eq_getElem _
    have := ((hx 0 (by omega)).1 0 k0).trans hv
    simpa [Addr.add] using World.cell?_spot this
   subst hspot
   refine ⟨b, off, rfl, fun j u hj => ?_⟩
   have hlt : j < xs.length * k := by
    have := (List.getElem?_eq_some_iff.1 hj).1
    rwa [flat_len hk] at this
   have e : j / k * k + j % k = j := by rw [Nat.mul_comm]; exact Nat.div_add_mod j k
   have hjk : j / k < xs.length := (Nat.div_lt_iff_lt_mul k0).2 hlt
   rw [← e, flat_get hk xs _ _ hjk (Nat.mod_lt _ k0)] at hj
   have := (hx (j / k) (by omega)).1 (j % k) (Nat.mod_lt _ k0)
   rw [Addr.add_lit, e] at this
   exact this.trans hj
  ·obtain ⟨i, hil, rfl⟩ := List.mem_iff_getElem.1 hy
   have := (hx i (by omega)).2
   rwa [getElem!_pos xs i hil] at this
theorem cXp : Tryz.prog.cellsOf 139 = 4 := by kernel_rfl
theorem cXl : Tryz.prog.cellsOf 137 = 1 := by kernel_rfl
theorem cTi : Tryz.prog.cellsOf 66 = 2 := by kernel_rfl
theorem cTl : Tryz.prog.cellsOf 67 = 1 := by kernel_rfl
theorem cIt : Tryz.prog.cellsOf 69 = 5 := by kernel_rfl
theorem cFe : Tryz.prog.cellsOf 141 = 10 := by kernel_rfl
theorem cFl : Tryz.prog.cellsOf 70 = 1 := by kernel_rfl
theorem cRu : Tryz.prog.cellsOf 144 = 6 := by kernel_rfl
theorem cRl : Tryz.prog.cellsOf 71 = 1 := by kernel_rfl
theorem cPd : Tryz.prog.cellsOf 73 = 19 := by kernel_rfl
theorem cHd : Tryz.prog.cellsOf 101 = 6 := by kernel_rfl
theorem cBk : Tryz.prog.cellsOf 105 = 7 := by kernel_rfl
theorem cCu : Tryz.prog.cellsOf 62 = 2 := by kernel_rfl
theorem cGl : Tryz.prog.cellsOf 64 = 4 := by kernel_rfl
theorem cLg : Tryz.prog.cellsOf 50 = 3 := by kernel_rfl
theorem cLl : Tryz.prog.cellsOf 36 = 1 := by kernel_rfl
theorem cEn : Tryz.prog.cellsOf 39 = 10 := by kernel_rfl
theorem cAc : Tryz.prog.cellsOf 76 = 7 := by kernel_rfl
theorem cPl : Tryz.prog.cellsOf 26 = 14 := by kernel_rfl
theorem cCa : Tryz.prog.cellsOf 55 = 3 := by kernel_rfl
theorem cBb : Tryz.prog.cellsOf 4 = 1 := by kernel_rfl
theorem cUu : Tryz.prog.cellsOf 37 = 1 := by kernel_rfl
theorem cCul : Tryz.prog.cellsOf 22 = 1 := by kernel_rfl
theorem cCal : Tryz.prog.cellsOf 23 = 1 := by kernel_rfl
theorem cGll : Tryz.prog.cellsOf 24 = 1 := by kernel_rfl
theorem cPdl : Tryz.prog.cellsOf 27 = 1 := by kernel_rfl
theorem cAcl : Tryz.prog.cellsOf 28 = 1 := by kernel_rfl
theorem cEnl : Tryz.prog.cellsOf 29 = 1 := by kernel_rfl
theorem cHdl : Tryz.prog.cellsOf 30 = 1 := by kernel_rfl
theorem cBkl : Tryz.prog.cellsOf 31 = 1 := by kernel_rfl
theorem cBo : Tryz.prog.cellsOf 33 = 22 := by kernel_rfl
theorem fBb {c : Value} (h : DataW.trod ec Tryz.prog w base spare held m 4 [c] = some x) : ∃ b, c = .bool b := by
 obtain ⟨b, e, _⟩ := DataW.trod_bool Tryz.underlying4 h
 exact ⟨b, by simpa using e⟩
theorem fU {c : Value} (h : DataW.trod ec Tryz.prog w base spare held m 37 [c] = some x) : ∃ b, c = .int .u64 b := by
 obtain ⟨b, e, _⟩ := DataW.trod_int Tryz.underlying37 h
 exact ⟨b, by simpa using e⟩
theorem xp_cells : ∀ (m : Nat) {x : DataW H × List MemPlace} {cs : List Value}, DataW.trod ec Tryz.prog w base spare held m 139 cs = some x → ∃ e : Xp, cs = xpenc e ∧ XpIn w e := by
 intro m
 induction m using Nat.strongRecOn with
 | ind m ih =>
  intro x cs h
  obtain ⟨xs, n, hn, _, hl, hxl, hf⟩ := DataW.trod_struct Tryz.underlying139 h
  rw [cXp] at hl
  match cs, hl, xs, hxl with
  | [c0, c1, c2, c3], _, [y0, y1, y2, y3], _ =>
   clear h hl hxl
   have h0 := hf 0 _ rfl
   simp [cI] at h0
   have h1 := hf 1 _ rfl
   simp [cI] at h1
   have h2 := hf 2 _ rfl
   simp [cS] at h2
   have h3 := hf 3 _ rfl
   simp [cXl] at h3
   clear hf
   obtain ⟨a0, rfl, w0⟩ := fI h0
   obtain ⟨a1, rfl, w1⟩ := fI h1
   obtain ⟨a2, rfl, w2⟩ := fS h2
   obtain ⟨a3, k3, l3, e3, z3, r3, q3⟩ := open_row_lt (Q := XpIn w) xpenc_len (by decide) cXp (fun j hj cs y hy => ih j (by omega) hy) Tryz.underlying137 h3
   obtain rfl := (List.cons.inj e3).1
   exact ⟨.mk a0 a1 a2 a3 k3 l3, rfl, .mk w2 z3 r3 q3⟩
theorem ti_cells {cs : List Value} (h : DataW.trod ec Tryz.prog w base spare held m 66 cs = some x) : ∃ a : Ti, cs = tienc a ∧ True := by
 obtain ⟨xs, n, _, _, hl, hxl, hf⟩ := DataW.trod_struct Tryz.underlying66 h
 rw [cTi] at hl
 match cs, hl, xs, hxl with
 | [c0, c1], _, [y0, y1], _ =>
  clear h hl hxl
  have h0 := hf 0 _ rfl
  simp [cI] at h0
  have h1 := hf 1 _ rfl
  simp [cI] at h1
  clear hf
  obtain ⟨a0, rfl, w0⟩ := fI h0
  obtain ⟨a1, rfl, w1⟩ := fI h1
  exact ⟨⟨a0, a1⟩, rfl, trivial⟩
theorem it_cells {cs : List Value} (h : DataW.trod ec Tryz.prog w base spare held m 69 cs = some x) : ∃ a : It, cs = [.slice (a).ta (a).tn (a).tk, .bool (a).mg, .int .i64 (a).ba, .int .i64 (a).mo, .bool (a).kp] ∧ ItIn w a := by
 obtain ⟨xs, n, _, _, hl, hxl, hf⟩ := DataW.trod_struct Tryz.underlying69 h
 rw [cIt] at hl
 match cs, hl, xs, hxl with
 | [c0, c1, c2, c3, c4], _, [y0, y1, y2, y3, y4], _ =>
  clear h hl hxl
  have h0 := hf 0 _ rfl
  simp [cTl] at h0
  have h1 := hf 1 _ rfl
  simp [cBb] at h1
  have h2 := hf 2 _ rfl
  simp [cI] at h2
  have h3 := hf 3 _ rfl
  simp [cI] at h3
  have h4 := hf 4 _ rfl
  simp [cBb] at h4
  clear hf
  obtain ⟨a0, k0, l0, e0, z0, r0, q0⟩ := open_row tienc_len (by decide) cTi (fun _ _ _ h => ti_cells h) Tryz.underlying67 h0
  obtain rfl := (List.cons.inj e0).1
  clear e0
  obtain ⟨a1, rfl⟩ := fBb h1
  obtain ⟨a2, rfl, w2⟩ := fI h2
  obtain ⟨a3, rfl, w3⟩ := fI h3
  obtain ⟨a4, rfl⟩ := fBb h4
  exact ⟨⟨a0, l0.length, k0, a1, a2, a3, a4⟩, rfl, ⟨⟨l0, r0, rfl, z0⟩⟩⟩
theorem fe_cells {cs : List Value} (h : DataW.trod ec Tryz.prog w base spare held m 141 cs = some x) : ∃ a : Fe, cs = feenc a ∧ (a.nm.size ≤ maxLen ∧ XpIn w a.wh ∧ XpIn w a.am) := by
 obtain ⟨xs, n, _, _, hl, hxl, hf⟩ := DataW.trod_struct Tryz.underlying141 h
 rw [cFe] at hl
 match cs, hl, xs, hxl with
 | [c0, c1, c2, c3, c4, c5, c6, c7, c8, c9], _, [y0, y1, y2, y3], _ =>
  clear h hl hxl
  have h0 := hf 0 _ rfl
  simp [cS] at h0
  have h1 := hf 1 _ rfl
  simp [cI] at h1
  have h2 := hf 2 _ rfl
  simp [cXp] at h2
  have h3 := hf 3 _ rfl
  simp [cXp] at h3
  clear hf
  obtain ⟨a0, rfl, w0⟩ := fS h0
  obtain ⟨a1, rfl, w1⟩ := fI h1
  obtain ⟨a2, e2, w2⟩ := xp_cells _ h2
  obtain ⟨a3, e3, w3⟩ := xp_cells _ h3
  exact ⟨⟨a0, a1, a2, a3⟩, by show _ = [.string a0, .int .i64 a1] ++ xpenc a2 ++ xpenc a3; rw [← e2, ← e3]; rfl, w0, w2, w3⟩
theorem ru_cells {cs : List Value} (h : DataW.trod ec Tryz.prog w base spare held m 144 cs = some x) : ∃ a : Ru, cs = ruenc a ∧ (a.nm.size ≤ maxLen ∧ XpIn w a.am) := by
 obtain ⟨xs, n, _, _, hl, hxl, hf⟩ := DataW.trod_struct Tryz.underlying144 h
 rw [cRu] at hl
 match cs, hl, xs, hxl with
 | [c0, c1, c2, c3, c4, c5], _, [y0, y1, y2], _ =>
  clear h hl hxl
  have h0 := hf 0 _ rfl
  simp [cS] at h0
  have h1 := hf 1 _ rfl
  simp [cI] at h1
  have h2 := hf 2 _ rfl
  simp [cXp] at h2
  clear hf
  obtain ⟨a0, rfl, w0⟩ := fS h0
  obtain ⟨a1, rfl, w1⟩ := fI h1
  obtain ⟨a2, e2, w2⟩ := xp_cells _ h2
  exact ⟨⟨a0, a1, a2⟩, by show _ = [.string a0, .int .i64 a1] ++ xpenc a2; rw [← e2]; rfl, w0, w2⟩
theorem pd_cells {cs : List Value} (h : DataW.trod ec Tryz.prog w base spare held m 73 cs = some x) : ∃ a : Pd, cs = pdenc a ∧ PdIn w a := by
 obtain ⟨xs, n, _, _, hl, hxl, hf⟩ := DataW.trod_struct Tryz.underlying73 h
 rw [cPd] at hl
 match cs, hl, xs, hxl with
 | [c0, c1, c2, c3, c4, c5, c6, c7, c8, c9, c10, c11, c12, c13, c14, c15, c16, c17, c18], _, [y0, y1, y2, y3, y4, y5, y6, y7, y8, y9, y10], _ =>
  clear h hl hxl
  have h0 := hf 0 _ rfl
  simp [cS] at h0
  have h1 := hf 1 _ rfl
  simp [cS] at h1
  have h2 := hf 2 _ rfl
  simp [cS] at h2
  have h3 := hf 3 _ rfl
  simp [cI] at h3
  have h4 := hf 4 _ rfl
  simp [cI] at h4
  have h5 := hf 5 _ rfl
  simp [cI] at h5
  have h6 := hf 6 _ rfl
  simp [cI] at h6
  have h7 := hf 7 _ rfl
  simp [cIt] at h7
  have h8 := hf 8 _ rfl
  simp [cIt] at h8
  have h9 := hf 9 _ rfl
  simp [cFl] at h9
  have h10 := hf 10 _ rfl
  simp [cRl] at h10
  clear hf
  obtain ⟨a0, rfl, w0⟩ := fS h0
  obtain ⟨a1, rfl, w1⟩ := fS h1
  obtain ⟨a2, rfl, w2⟩ := fS h2
  obtain ⟨a3, rfl, w3⟩ := fI h3
  obtain ⟨a4, rfl, w4⟩ := fI h4
  obtain ⟨a5, rfl, w5⟩ := fI h5
  obtain ⟨a6, rfl, w6⟩ := fI h6
  obtain ⟨a7, e7, w7⟩ := it_cells h7
  obtain ⟨a8, e8, w8⟩ := it_cells h8
  obtain ⟨a9, k9, l9, e9, z9, r9, q9⟩ := open_row feenc_len (by decide) cFe (fun _ _ _ h => fe_cells h) Tryz.underlying70 h9
  obtain rfl := (List.cons.inj e9).1
  clear e9
  obtain ⟨a10, k10, l10, e10, z10, r10, q10⟩ := open_row ruenc_len (by decide) cRu (fun _ _ _ h => ru_cells h) Tryz.underlying71 h10
  obtain rfl := (List.cons.inj e10).1
  clear e10
  simp only [List.cons.injEq, and_true] at e7 e8
  obtain ⟨rfl, rfl, rfl, rfl, rfl⟩ := e7
  obtain ⟨rfl, rfl, rfl, rfl, rfl⟩ := e8
  exact ⟨⟨a0, a1, a2, a3, a4, a5, a6, a7, a8, a9, l9.length, k9, a10, l10.length, k10⟩, rfl, ⟨w0, w1, w2, w7, w8, ⟨l9, r9, rfl, z9, q9⟩, ⟨l10, r10, rfl, z10, q10⟩⟩⟩
theorem hd_cells {cs : List Value} (h : DataW.trod ec Tryz.prog w base spare held m 101 cs = some x) : ∃ a : Hd, cs = hdenc a ∧ a.ke.size ≤ maxLen := by
 obtain ⟨xs, n, _, _, hl, hxl, hf⟩ := DataW.trod_struct Tryz.underlying101 h
 rw [cHd] at hl
 match cs, hl, xs, hxl with
 | [c0, c1, c2, c3, c4, c5], _, [y0, y1, y2, y3, y4, y5], _ =>
  clear h hl hxl
  have h0 := hf 0 _ rfl
  simp [cI] at h0
  have h1 := hf 1 _ rfl
  simp [cI] at h1
  have h2 := hf 2 _ rfl
  simp [cI] at h2
  have h3 := hf 3 _ rfl
  simp [cI] at h3
  have h4 := hf 4 _ rfl
  simp [cI] at h4
  have h5 := hf 5 _ rfl
  simp [cS] at h5
  clear hf
  obtain ⟨a0, rfl, w0⟩ := fI h0
  obtain ⟨a1, rfl, w1⟩ := fI h1
  obtain ⟨a2, rfl, w2⟩ := fI h2
  obtain ⟨a3, rfl, w3⟩ := fI h3
  obtain ⟨a4, rfl, w4⟩ := fI h4
  obtain ⟨a5, rfl, w5⟩ := fS h5
  exact ⟨⟨a0, a1, a2, a3, a4, a5⟩, rfl, w5⟩
theorem bl_cells {cs : List Value} (h : DataW.trod ec Tryz.prog w base spare held m 105 cs = some x) : ∃ a : Bl, cs = blenc a ∧ a.so.size ≤ maxLen := by
 obtain ⟨xs, n, _, _, hl, hxl, hf⟩ := DataW.trod_struct Tryz.underlying105 h
 rw [cBk] at hl
 match cs, hl, xs, hxl with
 | [c0, c1, c2, c3, c4, c5, c6], _, [y0, y1, y2, y3, y4, y5, y6], _ =>
  clear h hl hxl
  have h0 := hf 0 _ rfl
  simp [cI] at h0
  have h1 := hf 1 _ rfl
  simp [cI] at h1
  have h2 := hf 2 _ rfl
  simp [cI] at h2
  have h3 := hf 3 _ rfl
  simp [cI] at h3
  have h4 := hf 4 _ rfl
  simp [cI] at h4
  have h5 := hf 5 _ rfl
  simp [cI] at h5
  have h6 := hf 6 _ rfl
  simp [cS] at h6
  clear hf
  obtain ⟨a0, rfl, w0⟩ := fI h0
  obtain ⟨a1, rfl, w1⟩ := fI h1
  obtain ⟨a2, rfl, w2⟩ := fI h2
  obtain ⟨a3, rfl, w3⟩ := fI h3
  obtain ⟨a4, rfl, w4⟩ := fI h4
  obtain ⟨a5, rfl, w5⟩ := fI h5
  obtain ⟨a6, rfl, w6⟩ := fS h6
  exact ⟨⟨a0, a1, a2, a3, a4, a5, a6⟩, rfl, w6⟩
theorem cu_cells {cs : List Value} (h : DataW.trod ec Tryz.prog w base spare held m 62 cs = some x) : ∃ a : Cu, cs = cuenc a ∧ a.cd.size ≤ maxLen := by
 obtain ⟨xs, n, _, _, hl, hxl, hf⟩ := DataW.trod_struct Tryz.underlying62 h
 rw [cCu] at hl
 match cs, hl, xs, hxl with
 | [c0, c1], _, [y0, y1], _ =>
  clear h hl hxl
  have h0 := hf 0 _ rfl
  simp [cS] at h0
  have h1 := hf 1 _ rfl
  simp [cI] at h1
  clear hf
  obtain ⟨a0, rfl, w0⟩ := fS h0
  obtain ⟨a1, rfl, w1⟩ := fI h1
  exact ⟨⟨a0, a1⟩, rfl, w0⟩
theorem gl_cells {cs : List Value} (h : DataW.trod ec Tryz.prog w base spare held m 64 cs = some x) : ∃ a : Gl, cs = glenc a ∧ a.nm.size ≤ maxLen := by
 obtain ⟨xs, n, _, _, hl, hxl, hf⟩ := DataW.trod_struct Tryz.underlying64 h
 rw [cGl] at hl
 match cs, hl, xs, hxl with
 | [c0, c1, c2, c3], _, [y0, y1, y2, y3], _ =>
  clear h hl hxl
  have h0 := hf 0 _ rfl
  simp [cI] at h0
  have h1 := hf 1 _ rfl
  simp [cI] at h1
  have h2 := hf 2 _ rfl
  simp [cI] at h2
  have h3 := hf 3 _ rfl
  simp [cS] at h3
  clear hf
  obtain ⟨a0, rfl, w0⟩ := fI h0
  obtain ⟨a1, rfl, w1⟩ := fI h1
  obtain ⟨a2, rfl, w2⟩ := fI h2
  obtain ⟨a3, rfl, w3⟩ := fS h3
  exact ⟨⟨a0, a1, a2, a3⟩, rfl, w3⟩
theorem lg_cells {cs : List Value} (h : DataW.trod ec Tryz.prog w base spare held m 50 cs = some x) : ∃ a : Lg, cs = lgenc a ∧ (a.cu.size ≤ maxLen ∧ wid a.ac ∧ wid a.am) := by
 obtain ⟨xs, n, _, _, hl, hxl, hf⟩ := DataW.trod_struct Tryz.underlying50 h
 rw [cLg] at hl
 match cs, hl, xs, hxl with
 | [c0, c1, c2], _, [y0, y1, y2], _ =>
  clear h hl hxl
  have h0 := hf 0 _ rfl
  simp [cI] at h0
  have h1 := hf 1 _ rfl
  simp [cI] at h1
  have h2 := hf 2 _ rfl
  simp [cS] at h2
  clear hf
  obtain ⟨a0, rfl, w0⟩ := fI h0
  obtain ⟨a1, rfl, w1⟩ := fI h1
  obtain ⟨a2, rfl, w2⟩ := fS h2
  exact ⟨⟨a0, a1, a2⟩, rfl, w2, w0, w1⟩
theorem ac_cells {cs : List Value} (h : DataW.trod ec Tryz.prog w base spare held m 76 cs = some x) : ∃ a : Ac, cs = acenc a ∧ (a.ow.size ≤ maxLen ∧ a.pr.size ≤ maxLen ∧ a.nu.size ≤ maxLen) := by
 obtain ⟨xs, n, _, _, hl, hxl, hf⟩ := DataW.trod_struct Tryz.underlying76 h
 rw [cAc] at hl
 match cs, hl, xs, hxl with
 | [c0, c1, c2, c3, c4, c5, c6], _, [y0, y1, y2, y3, y4, y5, y6], _ =>
  clear h hl hxl
  have h0 := hf 0 _ rfl
  simp [cI] at h0
  have h1 := hf 1 _ rfl
  simp [cI] at h1
  have h2 := hf 2 _ rfl
  simp [cI] at h2
  have h3 := hf 3 _ rfl
  simp [cI] at h3
  have h4 := hf 4 _ rfl
  simp [cS] at h4
  have h5 := hf 5 _ rfl
  simp [cS] at h5
  have h6 := hf 6 _ rfl
  simp [cS] at h6
  clear hf
  obtain ⟨a0, rfl, w0⟩ := fI h0
  obtain ⟨a1, rfl, w1⟩ := fI h1
  obtain ⟨a2, rfl, w2⟩ := fI h2
  obtain ⟨a3, rfl, w3⟩ := fI h3
  obtain ⟨a4, rfl, w4⟩ := fS h4
  obtain ⟨a5, rfl, w5⟩ := fS h5
  obtain ⟨a6, rfl, w6⟩ := fS h6
  exact ⟨⟨a0, a1, a2, a3, a4, a5, a6⟩, rfl, w4, w5, w6⟩
theorem pl_cells {cs : List Value} (h : DataW.trod ec Tryz.prog w base spare held m 26 cs = some x) : ∃ a : Pl, cs = [.int .i64 (a).p0, .int .i64 (a).p1, .int .i64 (a).p2, .int .i64 (a).p3, .int .i64 (a).p4, .int .i64 (a).p5, .int .i64 (a).p6, .int .i64 (a).p7, .int .i64 (a).p8, .int .i64 (a).p9, .int .i64 (a).p10, .int .i64 (a).p11, .int .i64 (a).p12, .int .i64 (a).p13] ∧ True := by
 obtain ⟨xs, n, _, _, hl, hxl, hf⟩ := DataW.trod_struct Tryz.underlying26 h
 rw [cPl] at hl
 match cs, hl, xs, hxl with
 | [c0, c1, c2, c3, c4, c5, c6, c7, c8, c9, c10, c11, c12, c13], _, [y0, y1, y2, y3, y4, y5, y6, y7, y8, y9, y10, y11, y12, y13], _ =>
  clear h hl hxl
  have h0 := hf 0 _ rfl
  simp [cI] at h0
  have h1 := hf 1 _ rfl
  simp [cI] at h1
  have h2 := hf 2 _ rfl
  simp [cI] at h2
  have h3 := hf 3 _ rfl
  simp [cI] at h3
  have h4 := hf 4 _ rfl
  simp [cI] at h4
  have h5 := hf 5 _ rfl
  simp [cI] at h5
  have h6 := hf 6 _ rfl
  simp [cI] at h6
  have h7 := hf 7 _ rfl
  simp [cI] at h7
  have h8 := hf 8 _ rfl
  simp [cI] at h8
  have h9 := hf 9 _ rfl
  simp [cI] at h9
  have h10 := hf 10 _ rfl
  simp [cI] at h10
  have h11 := hf 11 _ rfl
  simp [cI] at h11
  have h12 := hf 12 _ rfl
  simp [cI] at h12
  have h13 := hf 13 _ rfl
  simp [cI] at h13
  clear hf
  obtain ⟨a0, rfl, w0⟩ := fI h0
  obtain ⟨a1, rfl, w1⟩ := fI h1
  obtain ⟨a2, rfl, w2⟩ := fI h2
  obtain ⟨a3, rfl, w3⟩ := fI h3
  obtain ⟨a4, rfl, w4⟩ := fI h4
  obtain ⟨a5, rfl, w5⟩ := fI h5
  obtain ⟨a6, rfl, w6⟩ := fI h6
  obtain ⟨a7, rfl, w7⟩ := fI h7
  obtain ⟨a8, rfl, w8⟩ := fI h8
  obtain ⟨a9, rfl, w9⟩ := fI h9
  obtain ⟨a10, rfl, w10⟩ := fI h10
  obtain ⟨a11, rfl, w11⟩ := fI h11
  obtain ⟨a12, rfl, w12⟩ := fI h12
  obtain ⟨a13, rfl, w13⟩ := fI h13
  exact ⟨⟨a0, a1, a2, a3, a4, a5, a6, a7, a8, a9, a10, a11, a12, a13⟩, rfl, trivial⟩
theorem en_cells {cs : List Value} (h : DataW.trod ec Tryz.prog w base spare held m 39 cs = some x) : ∃ a : En, cs = enenc a ∧ EnIn w a := by
 obtain ⟨xs, n, _, _, hl, hxl, hf⟩ := DataW.trod_struct Tryz.underlying39 h
 rw [cEn] at hl
 match cs, hl, xs, hxl with
 | [c0, c1, c2, c3, c4, c5, c6, c7, c8, c9], _, [y0, y1, y2, y3, y4, y5, y6, y7, y8, y9], _ =>
  clear h hl hxl
  have h0 := hf 0 _ rfl
  simp [cI] at h0
  have h1 := hf 1 _ rfl
  simp [cI] at h1
  have h2 := hf 2 _ rfl
  simp [cI] at h2
  have h3 := hf 3 _ rfl
  simp [cI] at h3
  have h4 := hf 4 _ rfl
  simp [cI] at h4
  have h5 := hf 5 _ rfl
  simp [cI] at h5
  have h6 := hf 6 _ rfl
  simp [cS] at h6
  have h7 := hf 7 _ rfl
  simp [cS] at h7
  have h8 := hf 8 _ rfl
  simp [cLl] at h8
  have h9 := hf 9 _ rfl
  simp [cUu] at h9
  clear hf
  obtain ⟨a0, rfl, w0⟩ := fI h0
  obtain ⟨a1, rfl, w1⟩ := fI h1
  obtain ⟨a2, rfl, w2⟩ := fI h2
  obtain ⟨a3, rfl, w3⟩ := fI h3
  obtain ⟨a4, rfl, w4⟩ := fI h4
  obtain ⟨a5, rfl, w5⟩ := fI h5
  obtain ⟨a6, rfl, w6⟩ := fS h6
  obtain ⟨a7, rfl, w7⟩ := fS h7
  obtain ⟨a8, k8, l8, e8, z8, r8, q8⟩ := open_row lgenc_len (by decide) cLg (fun _ _ _ h => lg_cells h) Tryz.underlying36 h8
  obtain rfl := (List.cons.inj e8).1
  clear e8
  obtain ⟨a9, rfl⟩ := fU h9
  exact ⟨⟨a0, a1, a2, a3, a4, a5, a6, a7, a8, k8, l8, a9⟩, rfl, ⟨⟨w6, w7, z8, fun x hx => (q8 x hx).1⟩, ⟨w0, w1, w2, w3, w4, w5, fun j hj => by
   have := q8 (l8[j]!) (by rw [getElem!_pos l8 j hj]; exact List.getElem_mem hj)
   exact this.2⟩, r8⟩⟩
theorem cl_cells {cs : List Value} (h : DataW.trod ec Tryz.prog w base spare held m 55 cs = some x) : ∃ a : ClS, cs = clenc a ∧ CalIn w a.c a.wa a.ha := by
 obtain ⟨c, wa, ha, wc, hc, e, h1⟩ := Ol.cal_cells h
 exact ⟨⟨c, wa, ha, wc, hc⟩, e, h1⟩
theorem bo_cells {cs : List Value} (h : DataW.trod ec Tryz.prog w base spare held m 33 cs = some x) : ∃ a : Bo, cs = [.slice (a).ua (a).us.length (a).uk, .slice (a).ka (a).kn (a).kk, .slice (a).ga (a).gs.length (a).gk, .int .i64 ((a).pl).p0, .int .i64 ((a).pl).p1, .int .i64 ((a).pl).p2, .int .i64 ((a).pl).p3, .int .i64 ((a).pl).p4, .int .i64 ((a).pl).p5, .int .i64 ((a).pl).p6, .int .i64 ((a).pl).p7, .int .i64 ((a).pl).p8, .int .i64 ((a).pl).p9, .int .i64 ((a).pl).p10, .int .i64 ((a).pl).p11, .int .i64 ((a).pl).p12, .int .i64 ((a).pl).p13, .slice (a).pa (a).ps.length (a).pk, .slice (a).aa (a).as.length (a).ak, .slice (a).ja (a).js.length (a).jk, .slice (a).ha (a).hn (a).hk, .slice (a).ba (a).bn (a).bk] ∧ BkIn w a := by
 obtain ⟨xs, n, _, _, hl, hxl, hf⟩ := DataW.trod_struct Tryz.underlying33 h
 rw [cBo] at hl
 match cs, hl, xs, hxl with
 | [c0, c1, c2, c3, c4, c5, c6, c7, c8, c9, c10, c11, c12, c13, c14, c15, c16, c17, c18, c19, c20, c21], _, [y0, y1, y2, y3, y4, y5, y6, y7, y8], _ =>
  clear h hl hxl
  have h0 := hf 0 _ rfl
  simp [cCul] at h0
  have h1 := hf 1 _ rfl
  simp [cCal] at h1
  have h2 := hf 2 _ rfl
  simp [cGll] at h2
  have h3 := hf 3 _ rfl
  simp [cPl] at h3
  have h4 := hf 4 _ rfl
  simp [cPdl] at h4
  have h5 := hf 5 _ rfl
  simp [cAcl] at h5
  have h6 := hf 6 _ rfl
  simp [cEnl] at h6
  have h7 := hf 7 _ rfl
  simp [cHdl] at h7
  have h8 := hf 8 _ rfl
  simp [cBkl] at h8
  clear hf
  obtain ⟨a0, k0, l0, e0, z0, r0, q0⟩ := open_row cuenc_len (by decide) cCu (fun _ _ _ h => cu_cells h) Tryz.underlying22 h0
  obtain rfl := (List.cons.inj e0).1
  clear e0
  obtain ⟨a1, k1, l1, e1, z1, r1, q1⟩ := open_row clenc_len (by decide) cCa (fun _ _ _ h => cl_cells h) Tryz.underlying23 h1
  obtain rfl := (List.cons.inj e1).1
  clear e1
  obtain ⟨a2, k2, l2, e2, z2, r2, q2⟩ := open_row glenc_len (by decide) cGl (fun _ _ _ h => gl_cells h) Tryz.underlying24 h2
  obtain rfl := (List.cons.inj e2).1
  clear e2
  obtain ⟨a3, e3, w3⟩ := pl_cells h3
  obtain ⟨a4, k4, l4, e4, z4, r4, q4⟩ := open_row pdenc_len (by decide) cPd (fun _ _ _ h => pd_cells h) Tryz.underlying27 h4
  obtain rfl := (List.cons.inj e4).1
  clear e4
  obtain ⟨a5, k5, l5, e5, z5, r5, q5⟩ := open_row acenc_len (by decide) cAc (fun _ _ _ h => ac_cells h) Tryz.underlying28 h5
  obtain rfl := (List.cons.inj e5).1
  clear e5
  obtain ⟨a6, k6, l6, e6, z6, r6, q6⟩ := open_row enenc_len (by decide) cEn (fun _ _ _ h => en_cells h) Tryz.underlying29 h6
  obtain rfl := (List.cons.inj e6).1
  clear e6
  obtain ⟨a7, k7, l7, e7, z7, r7, q7⟩ := open_row hdenc_len (by decide) cHd (fun _ _ _ h => hd_cells h) Tryz.underlying30 h7
  obtain rfl := (List.cons.inj e7).1
  clear e7
  obtain ⟨a8, k8, l8, e8, z8, r8, q8⟩ := open_row blenc_len (by decide) cBk (fun _ _ _ h => bl_cells h) Tryz.underlying31 h8
  obtain rfl := (List.cons.inj e8).1
  clear e8
  simp only [List.cons.injEq, and_true] at e3
  obtain ⟨rfl, rfl, rfl, rfl, rfl, rfl, rfl, rfl, rfl, rfl, rfl, rfl, rfl, rfl⟩ := e3
  exact ⟨⟨a0, k0, l0, a1, l1.length, k1, a2, k2, l2, a3, a4, k4, l4, a5, k5, l5, a6, k6, l6, a7, l7.length, k7, a8, l8.length, k8⟩, rfl, ⟨⟨r0, z0, q0⟩, ⟨l1, r1, rfl, z1, q1⟩, ⟨r2, z2, q2⟩, ⟨r4, z4, q4⟩, ⟨r5, z5, q5⟩, ⟨r6, z6, q6⟩, ⟨l7, r7, rfl, z7, q7⟩, ⟨l8, r8, rfl, z8, q8⟩, cap_of Tryz.underlying24 h2, cap_of Tryz.underlying29 h6, cap_of Tryz.underlying30 h7⟩⟩
end
theorem open_books_arg {H : Type} {ec : TypeId × Value → H} {W : World} {r : Reach} {b0 base : Nat} {sp : Nat → Bool} {v : Value} {d : DataW H} {p : List MemPlace}
  (hv : Value.okWide Tryz.prog W r b0 33 v) (h : DataW.Trod ec Tryz.prog W base sp true 33 v d p) : ∃ B : Bo, v = (.agg #[.slice (B).ua (B).us.length (B).uk, .slice (B).ka (B).kn (B).kk, .slice (B).ga (B).gs.length (B).gk, .int .i64 ((B).pl).p0, .int .i64 ((B).pl).p1, .int .i64 ((B).pl).p2, .int .i64 ((B).pl).p3, .int .i64 ((B).pl).p4, .int .i64 ((B).pl).p5, .int .i64 ((B).pl).p6, .int .i64 ((B).pl).p7, .int .i64 ((B).pl).p8, .int .i64 ((B).pl).p9, .int .i64 ((B).pl).p10, .int .i64 ((B).pl).p11, .int .i64 ((B).pl).p12, .int .i64 ((B).pl).p13, .slice (B).pa (B).ps.length (B).pk, .slice (B).aa (B).as.length (B).ak, .slice (B).ja (B).js.length (B).jk, .slice (B).ha (B).hn (B).hk, .slice (B).ba (B).bn (B).bk]) ∧ BkIn W B := by
 obtain ⟨cs, rfl, _⟩ := okWide_struct Tryz.underlying33 hv
 obtain ⟨fuel, hf⟩ := h
 obtain ⟨B, e, h1⟩ := bo_cells hf
 refine ⟨B, ?_, h1⟩
 obtain ⟨cs⟩ := cs
 have e' : cs = _ := e
 rw [e']
theorem open_entries_arg {H : Type} {ec : TypeId × Value → H} {W : World} {r : Reach} {b0 base : Nat} {sp : Nat → Bool} {v : Value} {d : DataW H} {p : List MemPlace}
  (hv : Value.okWide Tryz.prog W r b0 29 v) (h : DataW.Trod ec Tryz.prog W base sp true 29 v d p) : ∃ (a : Option Addr) (cap : Nat) (l : List En), v = .slice a l.length cap ∧ l.length ≤ maxLen ∧ RowIn enenc W a l ∧ ∀ e ∈ l, EnIn W e := by
 obtain ⟨a0, len, cap, rfl⟩ := okWide_slice Tryz.underlying29 hv
 obtain ⟨fuel, hf⟩ := h
 obtain ⟨p, k, l, e, z, r, q⟩ := Ol.open_row enenc_len (by decide) cEn (fun _ _ _ h => en_cells h) Tryz.underlying29 hf
 simp [Value.cells] at e
 obtain ⟨rfl, rfl, rfl⟩ := e
 exact ⟨_, _, l, rfl, z, r, q⟩
end Go.Proofs.YtjhpiclnpmdjnaaGreatDoor.Bm
namespace Go.Proofs.YtjhpiclnpmdjnaaGreatDoor.Bm
open Go Go.RowKit
open Go.Proofs.YtjhpiclnpmdjnaaGreatDoor
open Go.Proofs.YtjhpiclnpmdjnaaGreatDoor.Ln (RowIn)
set_option linter.unusedSimpArgs false
set_option linter.unusedVariables false
mutual
def Xp.nd : Xp → Nat
 | .mk _ _ _ _ _ l => 1 + ndL l
def ndL : List Xp → Nat
 | [] => 0
 | x :: t => x.nd + ndL t
end
theorem nd_eq (e : Xp) : e.nd = 1 + ndL e.l := by
 cases e
 rw [Xp.nd]
 rfl
theorem nd_pos (e : Xp) : 1 ≤ e.nd := by
 rw [nd_eq]
 omega
theorem nd_mem : ∀ {l : List Xp} {x : Xp}, x ∈ l → x.nd ≤ ndL l
 | y :: t, x, h => by
  rw [ndL]
  rcases List.mem_cons.1 h with rfl | h
  ·omega
  ·have := nd_mem h
   omega
theorem nd_lt {e x : Xp} (h : x ∈ e.l) : x.nd < e.nd := by
 have := nd_mem h
 rw [nd_eq e]
 omega
theorem Xp.ind {P : Xp → Prop} (h : ∀ e, (∀ x ∈ e.l, P x) → P e) (e : Xp) : P e := by
 have hh : ∀ n (e : Xp), e.nd ≤ n → P e := by
  intro n
  induction n with
  | zero => intro e he; have := nd_pos e; omega
  | succ n ih => intro e he; exact h e fun x hx => ih x (by have := nd_lt hx; omega)
 exact hh _ e (Nat.le_refl _)
theorem ndL_take : ∀ (l : List Xp) (i : Nat) (hi : i < l.length), ndL (l.take (i + 1)) = ndL (l.take i) + (l[i]).nd
 | x :: t, 0, _ => by simp [ndL]
 | x :: t, i + 1, hi => by
  have := ndL_take t i (by simpa using hi)
  simp only [List.take_succ_cons, ndL, List.getElem_cons_succ] at this ⊢
  omega
theorem ndL_take_le : ∀ (l : List Xp) (i : Nat), ndL (l.take i) ≤ ndL l
 | [], i => by simp
 | x :: t, 0 => by simp [ndL]
 | x :: t, i + 1 => by
  have := ndL_take_le t i
  simp only [List.take_succ_cons, ndL]
  omega
instance : Inhabited Xp := ⟨.mk 0 0 .empty none 0 []⟩
def CntP (e : Xp) (m n : Int) : Prop := 1 ≤ n ∧ n ≤ m + 1 ∧ (n ≤ m → n = (e.nd : Int))
def CntR (e : Xp) (m : Int) (i : Nat) (n : Int) : Prop := 1 ≤ n ∧ n ≤ m + 1 ∧ (n ≤ m → n = 1 + (ndL (e.l.take i) : Int))
theorem CntR.nil (e : Xp) {m : Int} (hm : 0 ≤ m) : CntR e m 0 1 := ⟨by omega, by omega, fun _ => by simp [ndL]⟩
theorem CntR.step {e : Xp} {m n c : Int} {i : Nat} (hi : i < e.l.length) (h : CntR e m i n) (hn : n ≤ m) (hc : CntP e.l[i]! (m - n) c) : CntR e m (i + 1) (n + c) := by
 obtain ⟨h1, h2, h3⟩ := h
 obtain ⟨k1, k2, k3⟩ := hc
 refine ⟨by omega, by omega, fun hh => ?_⟩
 rw [ndL_take _ _ hi, h3 hn, k3 (by omega), getElem!_pos e.l i hi]
 omega
theorem CntR.fin {e : Xp} {m n : Int} {i : Nat} (h : CntR e m i n) (hi : e.l.length ≤ i ∨ m < n) : CntP e m n := by
 obtain ⟨h1, h2, h3⟩ := h
 refine ⟨h1, h2, fun hh => ?_⟩
 rcases hi with hi | hi
 ·rw [h3 hh, List.take_of_length_le hi, nd_eq]
  omega
 ·omega
theorem CntP.small {e : Xp} {m n : Int} (h : CntP e m n) (hn : (decide (m < n)) = false) : (e.nd : Int) ≤ m := by
 have := of_decide_eq_false hn
 rw [← h.2.2 (by omega)]
 omega
def IsN (e : Ending) : Prop := ∃ n : Int, e = .returned (.int .i64 n)
def IsU (e : Ending) : Prop := ∃ n : Int, e = .returned (.int .u64 n) ∧ 0 ≤ n ∧ n < 18446744073709551616
def Is2 (e : Ending) : Prop := ∃ n c : Int, e = .returned (.tuple #[.int .i64 n, .int .i64 c])
def NatR (k : Nat) (n : Int) : Prop := 0 ≤ n ∧ n * ((10 ^ k : Nat) : Int) < 18446744073709551616
theorem NatR.nil {n : Int} (h0 : 0 ≤ n) (h1 : n < 18446744073709551616) : NatR 0 n := ⟨h0, by simpa using h1⟩
theorem NatR.le {k : Nat} {n : Int} (h : NatR k n) (hn : 0 < n) : k ≤ 19 := by
 apply Classical.byContradiction
 intro hk
 have h1 : (10 : Nat) ^ 20 ≤ 10 ^ k := Nat.pow_le_pow_right (by decide) (by omega)
 have h2 : ((10 ^ k : Nat) : Int) ≤ n * ((10 ^ k : Nat) : Int) := by
  have := Int.mul_le_mul_of_nonneg_right (show (1 : Int) ≤ n by omega) (show (0 : Int) ≤ ((10 ^ k : Nat) : Int) from Int.natCast_nonneg _)
  rwa [Int.one_mul] at this
 have h3 : ((10 ^ 20 : Nat) : Int) ≤ ((10 ^ k : Nat) : Int) := Int.ofNat_le.2 h1
 have h4 : ((10 ^ 20 : Nat) : Int) = 100000000000000000000 := by decide
 have h5 := h.2
 omega
theorem NatR.step {k : Nat} {n : Int} (h : NatR k n) : NatR (k + 1) (n / 10) := by
 refine ⟨Int.ediv_nonneg h.1 (by decide), ?_⟩
 have h1 : ((10 ^ (k + 1) : Nat) : Int) = 10 * ((10 ^ k : Nat) : Int) := by rw [Nat.pow_succ, Nat.mul_comm]; simp
 have h2 : n / 10 * 10 ≤ n := Int.ediv_mul_le n (by decide)
 have h3 := Int.mul_le_mul_of_nonneg_right h2 (show (0 : Int) ≤ ((10 ^ k : Nat) : Int) from Int.natCast_nonneg _)
 rw [h1, ← Int.mul_assoc]
 exact Int.lt_of_le_of_lt h3 h.2
def szL : List ByteArray → Nat
 | [] => 0
 | s :: t => s.size + szL t
theorem szL_take : ∀ (l : List ByteArray) (i : Nat) (hi : i < l.length), szL (l.take (i + 1)) = szL (l.take i) + (l[i]).size
 | x :: t, 0, _ => by simp [szL]
 | x :: t, i + 1, hi => by
  have := szL_take t i (by simpa using hi)
  simp only [List.take_succ_cons, szL, List.getElem_cons_succ] at this ⊢
  omega
theorem szL_take_le : ∀ (l : List ByteArray) (i : Nat), szL (l.take i) ≤ szL l
 | [], i => by simp
 | x :: t, 0 => by simp [szL]
 | x :: t, i + 1 => by
  have := szL_take_le t i
  simp only [List.take_succ_cons, szL]
  omega
def NmsP (W : World) (e : Xp) (l : List ByteArray) : Prop := l.length ≤ e.nd ∧ ∀ s ∈ l, s.size ≤ maxLen
theorem XpIn.s {W : World} {e : Xp} (h : XpIn W e) : e.s.size ≤ maxLen := by cases h; assumption
theorem XpIn.ln {W : World} {e : Xp} (h : XpIn W e) : e.l.length ≤ maxLen := by cases h; assumption
theorem XpIn.r {W : World} {e : Xp} (h : XpIn W e) : RowIn xpenc W e.a e.l := by cases h; assumption
theorem XpIn.e {W : World} {e : Xp} (h : XpIn W e) : ∀ x ∈ e.l, XpIn W x := by cases h; assumption
theorem XpIn.at {W : World} {e : Xp} (h : XpIn W e) {i : Nat} (hi : i < e.l.length) : XpIn W e.l[i]! := h.e _ (by rw [getElem!_pos e.l i hi]; exact List.getElem_mem hi)
theorem ln_nd (e : Xp) : e.l.length < e.nd := by
 have h : ∀ l : List Xp, l.length ≤ ndL l := by
  intro l
  induction l with
  | nil => simp
  | cons x t ih =>
   have := nd_pos x
   simp only [List.length_cons, ndL]
   omega
 have := h e.l
 rw [nd_eq]
 omega
end Go.Proofs.YtjhpiclnpmdjnaaGreatDoor.Bm
namespace Go.Proofs.YtjhpiclnpmdjnaaGreatDoor.Bm
open Go Go.RowKit
open Go.Proofs.YtjhpiclnpmdjnaaGreatDoor
open Go.Proofs.YtjhpiclnpmdjnaaGreatDoor.Kl (byt byt_get)
set_option linter.unusedSimpArgs false
set_option linter.unusedVariables false
set_option maxRecDepth 100000
def IsNB (e : Ending) : Prop := ∃ (n : Int) (b : Bool), e = .returned (.tuple #[.int .i64 n, .bool b])
theorem IsNB.mk (n : Int) (b : Bool) : IsNB (.returned (.tuple #[.int .i64 n, .bool b])) := ⟨n, b, rfl⟩
set_option maxHeartbeats 8000000 in
theorem namew_any (s : ByteArray) (w : World) (hs : s.size ≤ maxLen) : Calls Tryz.prog 45 #[.string s] w fun e w' => IsB e ∧ w = w' := by
  have hm : s.size ≤ 9223372036854775807 := by unfold maxLen at hs; omega
  clear hs
  by_cases e1 : s.size < 1
  · go_enter Tryz.func45, Tryz.ntmps45
    go_wp2_with fail
    all_goals (go_ret; exact ⟨⟨_, rfl⟩, rfl⟩)
  have hb0 := byt_get (s := s) (j := 0) (by omega)
  have hc0 := (s[0]'(by omega)).toNat_lt
  go_enter Tryz.func45, Tryz.ntmps45
  go_wp2_with fail
  all_goals first
    | (go_ret; exact ⟨⟨_, rfl⟩, rfl⟩)
    | skip
  all_goals
    go_loopg [3] s.size (CntS s.size w)
    case atStart => exact ⟨0, by omega, rfl, rfl⟩
    case round =>
      obtain ⟨i, hi, rfl, rfl⟩ := hrel
      by_cases hlt : i < s.size
      · have hb := byt_get hlt
        have hc := (s[i]'hlt).toNat_lt
        go_wp2_with fail
        all_goals first
          | (go_ret; exact ⟨⟨_, rfl⟩, rfl⟩)
          | (go_roundg (gk - 1)
             case measure => omega
             case rel => exact ⟨i + 1, by omega, by go_num, rfl⟩)
      · go_wp2_with fail
        go_ret
        exact ⟨⟨_, rfl⟩, rfl⟩
end Go.Proofs.YtjhpiclnpmdjnaaGreatDoor.Bm
namespace Go.Proofs.YtjhpiclnpmdjnaaGreatDoor.Bm
open Go Go.RowKit
open Go.Proofs.YtjhpiclnpmdjnaaGreatDoor
open Go.Proofs.YtjhpiclnpmdjnaaGreatDoor.Ln (RowIn)
set_option linter.unusedSimpArgs false
set_option linter.unusedVariables false
structure Btc (W : World) (B0 B : Bo) (m : List En) (k : Nat) (cs : List Int) : Prop where
 st : Stat B0 B
 ex : Ext B0.js B.js
 bo : BoIn W B
 ln : B.js.length ≤ B0.js.length + k
 dd : ∀ j, j < k → poE ckE B m[j]! ≠ 0
 cl : cs.length = k
 sy : (∀ j, j < m.length → poE ckE B0 m[j]! ≠ 0) → B = B0 ∧ ∀ c ∈ cs, c ≠ 0
 ad : B.ua = B0.ua ∧ B.ga = B0.ga ∧ B.pa = B0.pa ∧ B.aa = B0.aa
theorem Btc.nil {W : World} {B0 : Bo} (m : List En) (h : BoIn W B0) : Btc W B0 B0 m 0 [] :=
 ⟨Stat.refl _, Ext.refl _, h, Nat.le_refl _, fun j hj => absurd hj (Nat.not_lt_zero j), rfl, fun _ => ⟨rfl, fun c hc => by cases hc⟩, rfl, rfl, rfl, rfl⟩
theorem Btc.later {W W' : World} {B0 B : Bo} {m : List En} {k : Nat} {cs : List Int} (h : Btc W B0 B m k cs) (hb : Below W.heap.size W W') : Btc W' B0 B m k cs :=
 ⟨h.st, h.ex, h.bo.later hb, h.ln, h.dd, h.cl, h.sy, h.ad⟩
theorem Btc.no {W : World} {B0 B : Bo} {m : List En} {k : Nat} {cs : List Int} (h : Btc W B0 B m k cs) {c : Int} (hc : poE ckE B m[k]! = c) (h0 : c ≠ 0) : Btc W B0 B m (k + 1) (cs ++ [c]) := by
 refine ⟨h.st, h.ex, h.bo, by have := h.ln; omega, fun j hj => ?_, by simp [h.cl], fun hs => ⟨(h.sy hs).1, fun d hd => ?_⟩, h.ad⟩
 ·by_cases hk : j = k
  ·rw [hk, hc]
   exact h0
  ·exact h.dd j (by omega)
 ·rw [List.mem_append, List.mem_singleton] at hd
  cases hd with
  | inl hd => exact (h.sy hs).2 d hd
  | inr hd => rw [hd]; exact h0
theorem Btc.yes {W W' : World} {B0 B : Bo} {m : List En} {k : Nat} {cs : List Int} (h : Btc W B0 B m k cs) (hk : k < m.length) (hn : B0.js.length + m.length ≤ 5000) (hc : poE ckE B m[k]! = 0)
  {g lk : Nat} {n r : Int} {la : Option Addr} (hb : BoIn W' B0) (hj : RowIn enenc W' (some ⟨g, 0, none⟩) (B.pst g (m[k]!.sld n la lk r)).js) :
  Btc W' B0 (B.pst g (m[k]!.sld n la lk r)) m (k + 1) (cs ++ [0]) := by
 have hst : Stat B (B.pst g (m[k]!.sld n la lk r)) := ⟨rfl, rfl, rfl, rfl⟩
 have hj0 := poE_0 hc
 have hex : Ext B.js (B.pst g (m[k]!.sld n la lk r)).js := ext_post (e := m[k]!) (e' := m[k]!.sld n la lk r) rfl hj0.2.2.2
 have hl : (B.pst g (m[k]!.sld n la lk r)).js.length = B.js.length + 1 := by simp [Bo.pst]
 have hh := h.bo
 refine ⟨h.st.trans hst, h.ex.trans hex, ⟨(show RowIn cuenc W' B.ua B.us by rw [h.ad.1, h.st.1]; exact hb.u), (show RowIn glenc W' B.ga B.gs by rw [h.ad.2.1, h.st.2.1]; exact hb.g), (show RowIn pdenc W' B.pa B.ps by rw [h.ad.2.2.1, h.st.2.2.1]; exact hb.p), (show RowIn acenc W' B.aa B.as by rw [h.ad.2.2.2, h.st.2.2.2]; exact hb.a), hj, ⟨hh.n.1, hh.n.2.1, hh.n.2.2.1, hh.n.2.2.2.1, ?_⟩⟩, ?_, fun j hjk => ?_, by simp [h.cl], fun hs => ?_, h.ad⟩
 ·have := h.ln
  rw [hl]
  omega
 ·have := h.ln
  rw [hl]
  omega
 ·by_cases hjk' : j = k
  ·rw [hjk']
   exact dead_posted (js := B.js) (e' := m[k]!.sld n la lk r) rfl rfl
  ·exact dead_later hst hex (h.dd j (by omega))
 ·have h1 := hs k hk
  rw [← (h.sy hs).1] at h1
  exact absurd hc h1
theorem Btc.again {W W' : World} {B0 B C : Bo} {m : List En} {cs ds : List Int} (h : Btc W B0 B m m.length cs) (h' : Btc W' B C m m.length ds) : C = B ∧ ds.length = m.length ∧ ∀ j, j < ds.length → ds[j]! ≠ 0 := by
 obtain ⟨h1, h2⟩ := h'.sy h.dd
 refine ⟨h1, h'.cl, fun j hj => h2 _ ?_⟩
 rw [getElem!_pos ds j hj]
 exact List.getElem_mem hj
def En.rul (e : En) : En := { e with au := 1 }
theorem EnW.rul {e : En} (h : EnW e) : EnW e.rul := ⟨h.n0, h.n1, h.n2, h.n3, (show wid (1 : Int) by unfold wid; decide), h.n5, h.lg⟩
theorem EnM.rul {e : En} (h : EnM e) : EnM e.rul := ⟨h.ke, h.tx, h.cu, h.ln⟩
structure FewB (B : Bo) : Prop where
 u : B.us.length ≤ 8
 g : B.gs.length ≤ 40
 p : B.ps.length ≤ 12
 a : B.as.length ≤ 8
 j : B.js.length ≤ 90
 k : B.kn ≤ 4
 h : B.hn ≤ 20
 b : B.bn ≤ 20
 l : ∀ j, j < B.js.length → (B.js[j]!).lg.length ≤ 12
theorem BkIn.bo {W : World} {B : Bo} (h : BkIn W B) (f : FewB B) : BoIn W B :=
 ⟨h.u.1, h.g.1, h.p.1, h.a.1, h.j.1, ⟨Nat.le_trans f.u (by decide), Nat.le_trans f.g (by decide), Nat.le_trans f.p (by decide), Nat.le_trans f.a (by decide), Nat.le_trans f.j (by decide)⟩⟩
end Go.Proofs.YtjhpiclnpmdjnaaGreatDoor.Bm
namespace Go.Proofs.YtjhpiclnpmdjnaaGreatDoor.Bm
open Go Go.RowKit
open Go.Proofs.YtjhpiclnpmdjnaaGreatDoor
open Go.Proofs.YtjhpiclnpmdjnaaGreatDoor.Ln (RowIn flat flat_len)
open Go.Proofs.YtjhpiclnpmdjnaaGreatDoor.Sr (GV app_gv ienc ienc_len ienc_one)
set_option linter.unusedSimpArgs false
set_option linter.unusedVariables false
theorem enenc_ln (e : En) : (enenc e).length = 10 := rfl
theorem enz_info : (Tryz.prog.info? 39).map (fun i => (i.zero, i.size, i.bytes)) = some (some (.agg #[.int .i64 0, .int .i64 0, .int .i64 0, .int .i64 0, .int .i64 0, .int .i64 0, .string { data := #[] }, .string { data := #[] }, .slice none 0 0, .int .u64 0]), 10, 112) := by kernel_rfl
abbrev EV (W : World) (B : Nat) (v : Value) (l : List En) : Prop := GV enenc 10 39 W B v l
theorem app_en {ops : Array Oper} {rest : List Oper} {o : Oper} {a : Act} {Q : Exit → Act → World → Prop} {W : World} {B : Nat} {v : Value} {xs : List En} (x : En) (hgd : o.guard = none) (s y : Operand)
  (ho : o.op = .call { callee := .builtin .append, args := #[s, y], argTypes := #[29, 29] }) (hs : a.eval s = v) (hr : EV W B v xs)
  (hy : a.eval y = .slice (some ⟨W.heap.size, 0, none⟩) 1 1) (hl : xs.length ≤ 1000000) (hB : B ≤ W.heap.size)
  (h : ∀ v' w', EV w' B v' (xs ++ [x]) → (W.alloc (.cells #[.int .i64 (x).id, .int .i64 (x).bo, .int .i64 (x).va, .int .i64 (x).ki, .int .i64 (x).au, .int .i64 (x).pe, .string (x).ke, .string (x).tx, .slice (x).la (x).lg.length (x).lk, .int .u64 (x).ch] 39)).grownBy w' v.ownBlock → (v'.ownBlock = v.ownBlock ∨ v'.ownBlock = some (W.heap.size + 1)) → wpList Tryz.prog ops Q rest (a.put o.dst v') w') :
  wpList Tryz.prog ops Q (o :: rest) a (W.alloc (.cells #[.int .i64 (x).id, .int .i64 (x).bo, .int .i64 (x).va, .int .i64 (x).ki, .int .i64 (x).au, .int .i64 (x).pe, .string (x).ke, .string (x).tx, .slice (x).la (x).lg.length (x).lk, .int .u64 (x).ch] 39)) := by
 exact app_gv enenc_ln enenc_one (by decide) (by decide) rfl enz_info Tryz.underlying29 x hgd s y ho hs hr hy hl hB h
theorem cd_info : (Tryz.prog.info? 43).map (fun i => (i.zero, i.size, i.bytes)) = some (some (.int .i64 0), 1, 8) := by kernel_rfl
abbrev CV (W : World) (B : Nat) (v : Value) (l : List Int) : Prop := GV ienc 1 43 W B v l
theorem app_cd {ops : Array Oper} {rest : List Oper} {o : Oper} {a : Act} {Q : Exit → Act → World → Prop} {W : World} {B : Nat} {v : Value} {xs : List Int} (x : Int) (hgd : o.guard = none) (s y : Operand)
  (ho : o.op = .call { callee := .builtin .append, args := #[s, y], argTypes := #[40, 40] }) (hs : a.eval s = v) (hr : CV W B v xs)
  (hy : a.eval y = .slice (some ⟨W.heap.size, 0, none⟩) 1 1) (hl : xs.length ≤ 1000000) (hB : B ≤ W.heap.size)
  (h : ∀ v' w', CV w' B v' (xs ++ [x]) → (W.alloc (.cells #[.int .i64 x] 43)).grownBy w' v.ownBlock → (v'.ownBlock = v.ownBlock ∨ v'.ownBlock = some (W.heap.size + 1)) → wpList Tryz.prog ops Q rest (a.put o.dst v') w') :
  wpList Tryz.prog ops Q (o :: rest) a (W.alloc (.cells #[.int .i64 x] 43)) :=
 app_gv ienc_len ienc_one (by decide) (by decide) rfl cd_info Tryz.underlying40 x hgd s y ho hs hr hy hl hB h
end Go.Proofs.YtjhpiclnpmdjnaaGreatDoor.Bm
