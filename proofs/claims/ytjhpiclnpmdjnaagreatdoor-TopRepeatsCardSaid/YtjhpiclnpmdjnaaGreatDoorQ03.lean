/-
  Parts of the proof: Bm, Kc0.
-/
import Derived.Test.YtjhpiclnpmdjnaaGreatDoorQ02
import Derived.Test.YtjhpiclnpmdjnaaGreatDoorQ10
namespace Go.Proofs.YtjhpiclnpmdjnaaGreatDoor.Bm
open Go Go.RowKit
set_option linter.unusedVariables false

structure Cu where
 (cd : ByteArray) (dg : Int)
structure Gl where
 (id pa ki : Int) (nm : ByteArray)
structure Lg where
 (ac am : Int) (cu : ByteArray)
structure En where
 (id bo va ki au pe : Int) (ke tx : ByteArray) (la : Option Addr) (lk : Nat) (lg : List Lg) (ch : Int)
structure Ac where
 (id op cl ex : Int) (ow pr nu : ByteArray)
structure It where
 (ta : Option Addr) (tn tk : Nat) (mg : Bool) (ba mo : Int) (kp : Bool)
structure Pd where
 (nm cu ca : ByteArray) (fr ev ov tx : Int) (ci di : It) (fa : Option Addr) (fn fk : Nat) (ra : Option Addr) (rn rk : Nat)
structure Pl where
 (p0 p1 p2 p3 p4 p5 p6 p7 p8 p9 p10 p11 p12 p13 : Int)
structure Bo where
 (ua : Option Addr) (uk : Nat) (us : List Cu) (ka : Option Addr) (kn kk : Nat) (ga : Option Addr) (gk : Nat) (gs : List Gl) (pl : Pl) (pa : Option Addr) (pk : Nat) (ps : List Pd) (aa : Option Addr) (ak : Nat) (as : List Ac)
 (ja : Option Addr) (jk : Nat) (js : List En) (ha : Option Addr) (hn hk : Nat) (ba : Option Addr) (bn bk : Nat)
instance : Inhabited Cu := ⟨⟨.empty, 0⟩⟩
instance : Inhabited Gl := ⟨⟨0, 0, 0, .empty⟩⟩
instance : Inhabited Lg := ⟨⟨0, 0, .empty⟩⟩
instance : Inhabited En := ⟨⟨0, 0, 0, 0, 0, 0, .empty, .empty, none, 0, [], 0⟩⟩
instance : Inhabited Ac := ⟨⟨0, 0, 0, 0, .empty, .empty, .empty⟩⟩
instance : Inhabited It := ⟨⟨none, 0, 0, false, 0, 0, false⟩⟩
instance : Inhabited Pd := ⟨⟨.empty, .empty, .empty, 0, 0, 0, 0, default, default, none, 0, 0, none, 0, 0⟩⟩
def cuenc (c : Cu) : List Value := [.string (c).cd, .int .i64 (c).dg]
def glenc (g : Gl) : List Value := [.int .i64 (g).id, .int .i64 (g).pa, .int .i64 (g).ki, .string (g).nm]
def lgenc (x : Lg) : List Value := [.int .i64 (x).ac, .int .i64 (x).am, .string (x).cu]
def enenc (e : En) : List Value := [.int .i64 (e).id, .int .i64 (e).bo, .int .i64 (e).va, .int .i64 (e).ki, .int .i64 (e).au, .int .i64 (e).pe, .string (e).ke, .string (e).tx, .slice (e).la (e).lg.length (e).lk, .int .u64 (e).ch]
def acenc (a : Ac) : List Value := [.int .i64 (a).id, .int .i64 (a).op, .int .i64 (a).cl, .int .i64 (a).ex, .string (a).ow, .string (a).pr, .string (a).nu]
def pdenc (p : Pd) : List Value := [.string (p).nm, .string (p).cu, .string (p).ca, .int .i64 (p).fr, .int .i64 (p).ev, .int .i64 (p).ov, .int .i64 (p).tx, .slice ((p).ci).ta ((p).ci).tn ((p).ci).tk, .bool ((p).ci).mg, .int .i64 ((p).ci).ba, .int .i64 ((p).ci).mo, .bool ((p).ci).kp, .slice ((p).di).ta ((p).di).tn ((p).di).tk, .bool ((p).di).mg, .int .i64 ((p).di).ba, .int .i64 ((p).di).mo, .bool ((p).di).kp, .slice (p).fa (p).fn (p).fk, .slice (p).ra (p).rn (p).rk]
theorem cuenc_len (x : Cu) : (cuenc x).length = 2 := rfl
theorem glenc_len (x : Gl) : (glenc x).length = 4 := rfl
theorem lgenc_len (x : Lg) : (lgenc x).length = 3 := rfl
theorem enenc_len (x : En) : (enenc x).length = 10 := rfl
theorem acenc_len (x : Ac) : (acenc x).length = 7 := rfl
theorem pdenc_len (x : Pd) : (pdenc x).length = 19 := rfl
theorem lgenc_one (x : Lg) : ∀ u ∈ lgenc x, u.oneCell' = true := by
 intro u hu
 simp only [lgenc, List.mem_cons, List.not_mem_nil, or_false] at hu
 rcases hu with rfl | rfl | rfl <;> rfl
theorem enenc_one (x : En) : ∀ u ∈ enenc x, u.oneCell' = true := by
 intro u hu
 simp only [enenc, List.mem_cons, List.not_mem_nil, or_false] at hu
 rcases hu with rfl | rfl | rfl | rfl | rfl | rfl | rfl | rfl | rfl | rfl <;> rfl
end Go.Proofs.YtjhpiclnpmdjnaaGreatDoor.Bm
namespace Go.Proofs.YtjhpiclnpmdjnaaGreatDoor.Kl
open Go Go.RowKit
open Go.Proofs.YtjhpiclnpmdjnaaGreatDoor

theorem ints_later {W w1 : World} {a : Option Addr} {ws : List Int} (hb : Below W.heap.size W w1) (h : Bk.IntsIn W a ws) : Bk.IntsIn w1 a ws :=
 ⟨h.1, fun h0 => let ⟨b, off, e, hc⟩ := h.2 h0; ⟨b, off, e, fun j hj => cell_later hb (hc j hj)⟩⟩
structure CalIn (W : World) (c : Cl) (wa ha : Option Addr) : Prop where
 wk : Bk.IntsIn W wa c.wk
 hol : Bk.IntsIn W ha c.hol
 nm : c.nm.size ≤ maxLen
theorem CalIn.later {W w1 : World} {c : Cl} {wa ha : Option Addr} (hb : Below W.heap.size W w1) (h : CalIn W c wa ha) : CalIn w1 c wa ha := ⟨ints_later hb h.wk, ints_later hb h.hol, h.nm⟩
end Go.Proofs.YtjhpiclnpmdjnaaGreatDoor.Kl
