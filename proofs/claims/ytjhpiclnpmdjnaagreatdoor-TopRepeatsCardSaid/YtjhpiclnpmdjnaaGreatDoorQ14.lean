/-
  Parts of the proof: B20.
-/
import Derived.Test.YtjhpiclnpmdjnaaGreatDoorQ07
import Derived.Test.YtjhpiclnpmdjnaaGreatDoorQ13
import Derived.Deep.MidRow
namespace Go.Proofs.YtjhpiclnpmdjnaaGreatDoor.Bm
open Go Go.RowKit
open Go.Proofs.YtjhpiclnpmdjnaaGreatDoor
open Go.Proofs.YtjhpiclnpmdjnaaGreatDoor.Ln (flat flat_len flat_get flat_mem RowIn OwnR Idx bl2 results2_cell Blk_setRow_same Blk_setRow_ne Below_setRow)
set_option linter.unusedSimpArgs false
set_option linter.unusedVariables false
set_option maxRecDepth 100000

def setAll : List Value → Nat → List Value → List Value
 | cs, _, [] => cs
 | cs, o, v :: r => setAll (cs.set o v) (o + 1) r
theorem Blk_setCells {g : Nat} {t : TypeId} : ∀ (vs : List Value) (o : Nat) (W : World) (cs : List Value), Bk.Blk W g cs.toArray t → Bk.Blk (W.setCells g o vs) g (setAll cs o vs).toArray t
 | [], _, _, _, h => h
 | v :: r, o, _, cs, h => Blk_setCells r (o + 1) _ (cs.set o v) (by have h2 := Bk.Blk.set_same (i := o) (u := v) h; rwa [List.setIfInBounds_toArray] at h2)
theorem Blk_setCells_ne {g b : Nat} {cs : Array Value} {t : TypeId} (hne : g ≠ b) : ∀ (vs : List Value) (o : Nat) (W : World), Bk.Blk W g cs t → Bk.Blk (W.setCells b o vs) g cs t
 | [], _, _, h => h
 | _ :: r, o, _, h => Blk_setCells_ne hne r (o + 1) _ (Bk.Blk.set_ne h hne)
theorem Below_setCells {B b : Nat} {w : World} (hb : B ≤ b) : ∀ (vs : List Value) (o : Nat) (W : World), Below B w W → Below B w (W.setCells b o vs)
 | [], _, _, h => h
 | _ :: r, o, _, h => Below_setCells hb r (o + 1) _ (h.setCell (p := ⟨b, o, none⟩) hb _)
theorem Blk_there {g : Nat} {cs : Array Value} {t : TypeId} {W : World} (h : Bk.Blk W g cs t) (o n : Nat) (hn : o + n ≤ cs.size) : W.there g o n := fun j hj =>
 ⟨by rw [Bk.Blk.cell h]; exact Option.isSome_iff_exists.2 ⟨_, Array.getElem?_eq_getElem (by omega)⟩, Bk.Blk.free h _⟩
theorem results1_cell {P : Program} {fn : Func} {p : Tmp} {ty : TypeId} (h : fn.results = #[.cell p ty]) (tmps : Array Value) (w : World) (g : Nat) (t : TypeId) (cs : Array Value) (fr : Nat × Nat) (d : TypeDesc)
  (hp : tmps.getD p undef = .pointer (some ⟨g, 0, none⟩)) (hg : w.heap[g]? = some (.cells cs t fr))
  (hu : P.underlying ty = some d) (hd : (match d with | .struct _ | .array _ _ => true | _ => false) = true) (hi : (P.info? ty).map (·.size) = some cs.size) :
  (results fn tmps).run P w = .ok (.agg cs) w := by
 have hp' : tmps[p]?.getD undef = .pointer (some ⟨g, 0, none⟩) := by simpa using hp
 simp [results, h, hp', asAddr, run_loadVar_row w g t ty cs fr d hg hu hd hi]
theorem row_of_blk {α : Type} {enc : α → List Value} {W : World} {g : Nat} {t : TypeId} {xs : List α} (h : Bk.Blk W g (flat enc xs).toArray t) : RowIn enc W (some ⟨g, 0, none⟩) xs := fun _ => ⟨g, 0, rfl, fun j u hj => by
 rw [Nat.zero_add, Bk.Blk.cell h]
 simpa using hj⟩
def eur : ByteArray := ⟨#[69, 85, 82]⟩
def giro : ByteArray := ⟨#[103, 105, 114, 111]⟩
def exU : List Cu := [⟨⟨#[69, 85, 82]⟩, 2⟩]
def exG : List Gl := [⟨101, 0, 1, ⟨#[99, 97, 115, 104]⟩⟩, ⟨102, 0, 1, ⟨#[99, 108, 101, 97, 114, 105, 110, 103]⟩⟩, ⟨103, 0, 1, ⟨#[108, 111, 97, 110, 115]⟩⟩, ⟨201, 0, 2, ⟨#[100, 101, 112, 111, 115, 105, 116, 115]⟩⟩, ⟨202, 0, 2, ⟨#[111, 116, 104, 101, 114]⟩⟩, ⟨301, 0, 4, ⟨#[105, 110, 99, 111, 109, 101]⟩⟩, ⟨401, 0, 5, ⟨#[101, 120, 112, 101, 110, 115, 101]⟩⟩]
def exPl : Pl := ⟨101, 201, 401, 301, 301, 202, 102, 103, 301, 301, 202, 401, 401, 301⟩
def exI (ta : Option Addr) : It := ⟨ta, 1, 1, false, 1, 6, false⟩
def exP (ta : Option Addr) : Pd := ⟨⟨#[103, 105, 114, 111]⟩, ⟨#[69, 85, 82]⟩, ⟨#[104, 111, 109, 101]⟩, 9000, 1, 500, 0, exI ta, exI ta, none, 0, 0, none, 0, 0⟩
def exA (n0 n1 : ByteArray) : List Ac := [⟨1000, 9678, 0, 0, ⟨#[97, 110, 110, 97]⟩, ⟨#[103, 105, 114, 111]⟩, n0⟩, ⟨1001, 9678, 0, 0, ⟨#[98, 101, 110]⟩, ⟨#[103, 105, 114, 111]⟩, n1⟩]
structure ExB (B : Bo) : Prop where
 u : B.us = exU
 g : B.gs = exG
 pl : B.pl = exPl
 p : ∃ ta, B.ps = [exP ta]
 a : ∃ n0 n1, B.as = exA n0 n1
 j : B.ja = none ∧ B.jk = 0 ∧ B.js = []
 b : B.ba = none ∧ B.bn = 0 ∧ B.bk = 0
set_option maxHeartbeats 16000000 in
theorem books_any (w : World) : Calls Tryz.prog 9 #[] w fun e w' => (∃ B, e = .returned (.agg #[.slice (B).ua (B).us.length (B).uk, .slice (B).ka (B).kn (B).kk, .slice (B).ga (B).gs.length (B).gk, .int .i64 ((B).pl).p0, .int .i64 ((B).pl).p1, .int .i64 ((B).pl).p2, .int .i64 ((B).pl).p3, .int .i64 ((B).pl).p4, .int .i64 ((B).pl).p5, .int .i64 ((B).pl).p6, .int .i64 ((B).pl).p7, .int .i64 ((B).pl).p8, .int .i64 ((B).pl).p9, .int .i64 ((B).pl).p10, .int .i64 ((B).pl).p11, .int .i64 ((B).pl).p12, .int .i64 ((B).pl).p13, .slice (B).pa (B).ps.length (B).pk, .slice (B).aa (B).as.length (B).ak, .slice (B).ja (B).js.length (B).jk, .slice (B).ha (B).hn (B).hk, .slice (B).ba (B).bn (B).bk]) ∧ BoIn w' B ∧ ExB B) ∧ Below w.heap.size w w' := by
 go_enter Tryz.func9, Tryz.ntmps9
 have cw : Below w.heap.size w (w.alloc (.cells #[.slice none 0 0, .slice none 0 0, .slice none 0 0, .int .i64 0, .int .i64 0, .int .i64 0, .int .i64 0, .int .i64 0, .int .i64 0, .int .i64 0, .int .i64 0, .int .i64 0, .int .i64 0, .int .i64 0, .int .i64 0, .int .i64 0, .int .i64 0, .slice none 0 0, .slice none 0 0, .slice none 0 0, .slice none 0 0, .slice none 0 0] 33)) := Bk.be
 have kz : Bk.Blk (w.alloc (.cells #[.slice none 0 0, .slice none 0 0, .slice none 0 0, .int .i64 0, .int .i64 0, .int .i64 0, .int .i64 0, .int .i64 0, .int .i64 0, .int .i64 0, .int .i64 0, .int .i64 0, .int .i64 0, .int .i64 0, .int .i64 0, .int .i64 0, .int .i64 0, .slice none 0 0, .slice none 0 0, .slice none 0 0, .slice none 0 0, .slice none 0 0] 33)) w.heap.size _ 33 := Bk.Blk.nw10
 go_upto_region 1 with fail
 generalize w.alloc (.cells _ 33) = w1 at *
 go_upto_region 2 with ((refine wpList_store_row rfl 33 _ _ rfl _ _ rfl rfl _ _ (Bk.Blk.nw32) (by kernel_rfl) rfl (by simp [Value.oneCell']) ?_))
 have hz := kz.lt
 have c2 : Below w.heap.size w ((((w1.alloc (.cells #[.string ⟨#[69, 85, 82]⟩, .int .i64 2] 62)).alloc (.cells #[.string ⟨#[104, 111, 109, 101]⟩, .slice none 0 0, .slice none 0 0] 55)).alloc (.cells #[.slice none 0 0, .slice none 0 0, .slice none 0 0, .int .i64 0, .int .i64 0, .int .i64 0, .int .i64 0, .int .i64 0, .int .i64 0, .int .i64 0, .int .i64 0, .int .i64 0, .int .i64 0, .int .i64 0, .int .i64 0, .int .i64 0, .int .i64 0, .slice none 0 0, .slice none 0 0, .slice none 0 0, .slice none 0 0, .slice none 0 0] 33)).setRow (w1.heap.size + 1 + 1) #[.slice (some ⟨w1.heap.size, 0, none⟩) 1 1, .slice (some ⟨w1.heap.size + 1, 0, none⟩) 1 1, .slice none 0 0, .int .i64 0, .int .i64 0, .int .i64 0, .int .i64 0, .int .i64 0, .int .i64 0, .int .i64 0, .int .i64 0, .int .i64 0, .int .i64 0, .int .i64 0, .int .i64 0, .int .i64 0, .int .i64 0, .slice none 0 0, .slice none 0 0, .slice none 0 0, .slice none 0 0, .slice none 0 0]) := Below_setRow (((cw.alloc (by omega) _).alloc (by simp only [World.size_alloc]; omega) _).alloc (by simp only [World.size_alloc]; omega) _) (by omega) _
 have kb : Bk.Blk ((((w1.alloc (.cells #[.string ⟨#[69, 85, 82]⟩, .int .i64 2] 62)).alloc (.cells #[.string ⟨#[104, 111, 109, 101]⟩, .slice none 0 0, .slice none 0 0] 55)).alloc (.cells #[.slice none 0 0, .slice none 0 0, .slice none 0 0, .int .i64 0, .int .i64 0, .int .i64 0, .int .i64 0, .int .i64 0, .int .i64 0, .int .i64 0, .int .i64 0, .int .i64 0, .int .i64 0, .int .i64 0, .int .i64 0, .int .i64 0, .int .i64 0, .slice none 0 0, .slice none 0 0, .slice none 0 0, .slice none 0 0, .slice none 0 0] 33)).setRow (w1.heap.size + 1 + 1) #[.slice (some ⟨w1.heap.size, 0, none⟩) 1 1, .slice (some ⟨w1.heap.size + 1, 0, none⟩) 1 1, .slice none 0 0, .int .i64 0, .int .i64 0, .int .i64 0, .int .i64 0, .int .i64 0, .int .i64 0, .int .i64 0, .int .i64 0, .int .i64 0, .int .i64 0, .int .i64 0, .int .i64 0, .int .i64 0, .int .i64 0, .slice none 0 0, .slice none 0 0, .slice none 0 0, .slice none 0 0, .slice none 0 0]) (w1.heap.size + 1 + 1) _ 33 := Blk_setRow_same Bk.Blk.nw32
 have ku : Bk.Blk ((((w1.alloc (.cells #[.string ⟨#[69, 85, 82]⟩, .int .i64 2] 62)).alloc (.cells #[.string ⟨#[104, 111, 109, 101]⟩, .slice none 0 0, .slice none 0 0] 55)).alloc (.cells #[.slice none 0 0, .slice none 0 0, .slice none 0 0, .int .i64 0, .int .i64 0, .int .i64 0, .int .i64 0, .int .i64 0, .int .i64 0, .int .i64 0, .int .i64 0, .int .i64 0, .int .i64 0, .int .i64 0, .int .i64 0, .int .i64 0, .int .i64 0, .slice none 0 0, .slice none 0 0, .slice none 0 0, .slice none 0 0, .slice none 0 0] 33)).setRow (w1.heap.size + 1 + 1) #[.slice (some ⟨w1.heap.size, 0, none⟩) 1 1, .slice (some ⟨w1.heap.size + 1, 0, none⟩) 1 1, .slice none 0 0, .int .i64 0, .int .i64 0, .int .i64 0, .int .i64 0, .int .i64 0, .int .i64 0, .int .i64 0, .int .i64 0, .int .i64 0, .int .i64 0, .int .i64 0, .int .i64 0, .int .i64 0, .int .i64 0, .slice none 0 0, .slice none 0 0, .slice none 0 0, .slice none 0 0, .slice none 0 0]) w1.heap.size #[.string ⟨#[69, 85, 82]⟩, .int .i64 2] 62 := Blk_setRow_ne Bk.Blk.nw30 (by omega)
 have kz2 : Bk.Blk ((((w1.alloc (.cells #[.string ⟨#[69, 85, 82]⟩, .int .i64 2] 62)).alloc (.cells #[.string ⟨#[104, 111, 109, 101]⟩, .slice none 0 0, .slice none 0 0] 55)).alloc (.cells #[.slice none 0 0, .slice none 0 0, .slice none 0 0, .int .i64 0, .int .i64 0, .int .i64 0, .int .i64 0, .int .i64 0, .int .i64 0, .int .i64 0, .int .i64 0, .int .i64 0, .int .i64 0, .int .i64 0, .int .i64 0, .int .i64 0, .int .i64 0, .slice none 0 0, .slice none 0 0, .slice none 0 0, .slice none 0 0, .slice none 0 0] 33)).setRow (w1.heap.size + 1 + 1) #[.slice (some ⟨w1.heap.size, 0, none⟩) 1 1, .slice (some ⟨w1.heap.size + 1, 0, none⟩) 1 1, .slice none 0 0, .int .i64 0, .int .i64 0, .int .i64 0, .int .i64 0, .int .i64 0, .int .i64 0, .int .i64 0, .int .i64 0, .int .i64 0, .int .i64 0, .int .i64 0, .int .i64 0, .int .i64 0, .int .i64 0, .slice none 0 0, .slice none 0 0, .slice none 0 0, .slice none 0 0, .slice none 0 0]) w.heap.size _ 33 := Blk_setRow_ne (Bk.Blk.alloc (Bk.Blk.alloc (Bk.Blk.alloc kz))) (by omega)
 generalize ((((w1.alloc (.cells #[.string ⟨#[69, 85, 82]⟩, .int .i64 2] 62)).alloc (.cells _ 55)).alloc (.cells _ 33)).setRow (w1.heap.size + 1 + 1) _) = w2 at *
 obtain ⟨gu, hgu⟩ : ∃ gu, gu = w1.heap.size := ⟨_, rfl⟩
 obtain ⟨gb, hgb⟩ : ∃ gb, gb = w1.heap.size + 1 + 1 := ⟨_, rfl⟩
 obtain ⟨gk, hgk⟩ : ∃ gk, gk = w1.heap.size + 1 := ⟨_, rfl⟩
 rw [← hgb, ← hgk, ← hgu]
 rw [← hgb, ← hgk, ← hgu] at kb
 rw [← hgu] at ku
 have nb : w.heap.size ≠ gb := by omega
 have nu : gu ≠ gb := by omega
 have nuz : gu ≠ w.heap.size := by omega
 have lb : w.heap.size ≤ gb := by omega
 clear hgb hgk hgu hz kz cw
 simp only [Act.put]
 have kb3 : Bk.Blk (w2.alloc (.cells #[.int .i64 101, .int .i64 0, .int .i64 1, .string ⟨#[99, 97, 115, 104]⟩, .int .i64 102, .int .i64 0, .int .i64 1, .string ⟨#[99, 108, 101, 97, 114, 105, 110, 103]⟩, .int .i64 103, .int .i64 0, .int .i64 1, .string ⟨#[108, 111, 97, 110, 115]⟩, .int .i64 201, .int .i64 0, .int .i64 2, .string ⟨#[100, 101, 112, 111, 115, 105, 116, 115]⟩, .int .i64 202, .int .i64 0, .int .i64 2, .string ⟨#[111, 116, 104, 101, 114]⟩, .int .i64 301, .int .i64 0, .int .i64 4, .string ⟨#[105, 110, 99, 111, 109, 101]⟩, .int .i64 401, .int .i64 0, .int .i64 5, .string ⟨#[101, 120, 112, 101, 110, 115, 101]⟩] 64)) gb _ _ := Bk.Blk.alloc kb
 have l2 := kb3.c2
 have f2 := kb3.f2
 go_upto_region 3 with fail
 have c3 : Below w.heap.size w ((w2.alloc (.cells #[.int .i64 101, .int .i64 0, .int .i64 1, .string ⟨#[99, 97, 115, 104]⟩, .int .i64 102, .int .i64 0, .int .i64 1, .string ⟨#[99, 108, 101, 97, 114, 105, 110, 103]⟩, .int .i64 103, .int .i64 0, .int .i64 1, .string ⟨#[108, 111, 97, 110, 115]⟩, .int .i64 201, .int .i64 0, .int .i64 2, .string ⟨#[100, 101, 112, 111, 115, 105, 116, 115]⟩, .int .i64 202, .int .i64 0, .int .i64 2, .string ⟨#[111, 116, 104, 101, 114]⟩, .int .i64 301, .int .i64 0, .int .i64 4, .string ⟨#[105, 110, 99, 111, 109, 101]⟩, .int .i64 401, .int .i64 0, .int .i64 5, .string ⟨#[101, 120, 112, 101, 110, 115, 101]⟩] 64)).setCell ⟨gb, 2, none⟩ (.slice (some ⟨w2.heap.size, 0, none⟩) 7 7)) := (c2.alloc (Below.size c2) _).setCell (p := ⟨gb, 2, none⟩) lb _
 have kb4 : Bk.Blk ((w2.alloc (.cells #[.int .i64 101, .int .i64 0, .int .i64 1, .string ⟨#[99, 97, 115, 104]⟩, .int .i64 102, .int .i64 0, .int .i64 1, .string ⟨#[99, 108, 101, 97, 114, 105, 110, 103]⟩, .int .i64 103, .int .i64 0, .int .i64 1, .string ⟨#[108, 111, 97, 110, 115]⟩, .int .i64 201, .int .i64 0, .int .i64 2, .string ⟨#[100, 101, 112, 111, 115, 105, 116, 115]⟩, .int .i64 202, .int .i64 0, .int .i64 2, .string ⟨#[111, 116, 104, 101, 114]⟩, .int .i64 301, .int .i64 0, .int .i64 4, .string ⟨#[105, 110, 99, 111, 109, 101]⟩, .int .i64 401, .int .i64 0, .int .i64 5, .string ⟨#[101, 120, 112, 101, 110, 115, 101]⟩] 64)).setCell ⟨gb, 2, none⟩ (.slice (some ⟨w2.heap.size, 0, none⟩) 7 7)) gb #[.slice (some ⟨gu, 0, none⟩) 1 1, .slice (some ⟨gk, 0, none⟩) 1 1, .slice (some ⟨w2.heap.size, 0, none⟩) 7 7, .int .i64 0, .int .i64 0, .int .i64 0, .int .i64 0, .int .i64 0, .int .i64 0, .int .i64 0, .int .i64 0, .int .i64 0, .int .i64 0, .int .i64 0, .int .i64 0, .int .i64 0, .int .i64 0, .slice none 0 0, .slice none 0 0, .slice none 0 0, .slice none 0 0, .slice none 0 0] 33 := Bk.Blk.set_same kb3
 have kg : Bk.Blk ((w2.alloc (.cells #[.int .i64 101, .int .i64 0, .int .i64 1, .string ⟨#[99, 97, 115, 104]⟩, .int .i64 102, .int .i64 0, .int .i64 1, .string ⟨#[99, 108, 101, 97, 114, 105, 110, 103]⟩, .int .i64 103, .int .i64 0, .int .i64 1, .string ⟨#[108, 111, 97, 110, 115]⟩, .int .i64 201, .int .i64 0, .int .i64 2, .string ⟨#[100, 101, 112, 111, 115, 105, 116, 115]⟩, .int .i64 202, .int .i64 0, .int .i64 2, .string ⟨#[111, 116, 104, 101, 114]⟩, .int .i64 301, .int .i64 0, .int .i64 4, .string ⟨#[105, 110, 99, 111, 109, 101]⟩, .int .i64 401, .int .i64 0, .int .i64 5, .string ⟨#[101, 120, 112, 101, 110, 115, 101]⟩] 64)).setCell ⟨gb, 2, none⟩ (.slice (some ⟨w2.heap.size, 0, none⟩) 7 7)) w2.heap.size #[.int .i64 101, .int .i64 0, .int .i64 1, .string ⟨#[99, 97, 115, 104]⟩, .int .i64 102, .int .i64 0, .int .i64 1, .string ⟨#[99, 108, 101, 97, 114, 105, 110, 103]⟩, .int .i64 103, .int .i64 0, .int .i64 1, .string ⟨#[108, 111, 97, 110, 115]⟩, .int .i64 201, .int .i64 0, .int .i64 2, .string ⟨#[100, 101, 112, 111, 115, 105, 116, 115]⟩, .int .i64 202, .int .i64 0, .int .i64 2, .string ⟨#[111, 116, 104, 101, 114]⟩, .int .i64 301, .int .i64 0, .int .i64 4, .string ⟨#[105, 110, 99, 111, 109, 101]⟩, .int .i64 401, .int .i64 0, .int .i64 5, .string ⟨#[101, 120, 112, 101, 110, 115, 101]⟩] 64 := Bk.Blk.set_ne Bk.Blk.nw10 (by have := kb.lt; omega)
 have ku3 : Bk.Blk ((w2.alloc (.cells #[.int .i64 101, .int .i64 0, .int .i64 1, .string ⟨#[99, 97, 115, 104]⟩, .int .i64 102, .int .i64 0, .int .i64 1, .string ⟨#[99, 108, 101, 97, 114, 105, 110, 103]⟩, .int .i64 103, .int .i64 0, .int .i64 1, .string ⟨#[108, 111, 97, 110, 115]⟩, .int .i64 201, .int .i64 0, .int .i64 2, .string ⟨#[100, 101, 112, 111, 115, 105, 116, 115]⟩, .int .i64 202, .int .i64 0, .int .i64 2, .string ⟨#[111, 116, 104, 101, 114]⟩, .int .i64 301, .int .i64 0, .int .i64 4, .string ⟨#[105, 110, 99, 111, 109, 101]⟩, .int .i64 401, .int .i64 0, .int .i64 5, .string ⟨#[101, 120, 112, 101, 110, 115, 101]⟩] 64)).setCell ⟨gb, 2, none⟩ (.slice (some ⟨w2.heap.size, 0, none⟩) 7 7)) gu #[.string ⟨#[69, 85, 82]⟩, .int .i64 2] 62 := Bk.Blk.set_ne (Bk.Blk.alloc ku) nu
 have kz3 : Bk.Blk ((w2.alloc (.cells #[.int .i64 101, .int .i64 0, .int .i64 1, .string ⟨#[99, 97, 115, 104]⟩, .int .i64 102, .int .i64 0, .int .i64 1, .string ⟨#[99, 108, 101, 97, 114, 105, 110, 103]⟩, .int .i64 103, .int .i64 0, .int .i64 1, .string ⟨#[108, 111, 97, 110, 115]⟩, .int .i64 201, .int .i64 0, .int .i64 2, .string ⟨#[100, 101, 112, 111, 115, 105, 116, 115]⟩, .int .i64 202, .int .i64 0, .int .i64 2, .string ⟨#[111, 116, 104, 101, 114]⟩, .int .i64 301, .int .i64 0, .int .i64 4, .string ⟨#[105, 110, 99, 111, 109, 101]⟩, .int .i64 401, .int .i64 0, .int .i64 5, .string ⟨#[101, 120, 112, 101, 110, 115, 101]⟩] 64)).setCell ⟨gb, 2, none⟩ (.slice (some ⟨w2.heap.size, 0, none⟩) 7 7)) w.heap.size #[.slice none 0 0, .slice none 0 0, .slice none 0 0, .int .i64 0, .int .i64 0, .int .i64 0, .int .i64 0, .int .i64 0, .int .i64 0, .int .i64 0, .int .i64 0, .int .i64 0, .int .i64 0, .int .i64 0, .int .i64 0, .int .i64 0, .int .i64 0, .slice none 0 0, .slice none 0 0, .slice none 0 0, .slice none 0 0, .slice none 0 0] 33 := Bk.Blk.set_ne (Bk.Blk.alloc kz2) nb
 have lg := kb.lt
 have lu := ku.lt
 obtain ⟨gg, hgg⟩ : ∃ gg, gg = w2.heap.size := ⟨_, rfl⟩
 generalize ((w2.alloc (.cells _ 64)).setCell ⟨gb, 2, none⟩ (.slice (some ⟨w2.heap.size, 0, none⟩) 7 7)) = w3 at *
 rw [← hgg] at kg kb4 ⊢
 have ng : gg ≠ gb := by omega
 have ngz : gg ≠ w.heap.size := by have := kz2.lt; omega
 clear hgg kb3 l2 f2 kb ku kz2 c2 lg lu
 (try simp only [Act.put])
 have ht : w3.there gb 3 14 := Blk_there kb4 3 14 (by simp)
 go_upto_region 4 with (refine wpList_store_mid rfl 26 _ _ rfl gb 3 _ rfl rfl ht (by kernel_rfl) (by simp [Value.oneCell']) ?_)
 have kb5 : Bk.Blk (w3.setCells gb 3 [.int .i64 101, .int .i64 201, .int .i64 401, .int .i64 301, .int .i64 301, .int .i64 202, .int .i64 102, .int .i64 103, .int .i64 301, .int .i64 301, .int .i64 202, .int .i64 401, .int .i64 401, .int .i64 301]) gb #[.slice (some ⟨gu, 0, none⟩) 1 1, .slice (some ⟨gk, 0, none⟩) 1 1, .slice (some ⟨gg, 0, none⟩) 7 7, .int .i64 101, .int .i64 201, .int .i64 401, .int .i64 301, .int .i64 301, .int .i64 202, .int .i64 102, .int .i64 103, .int .i64 301, .int .i64 301, .int .i64 202, .int .i64 401, .int .i64 401, .int .i64 301, .slice none 0 0, .slice none 0 0, .slice none 0 0, .slice none 0 0, .slice none 0 0] 33 := Bk.Blk.conv (Blk_setCells [.int .i64 101, .int .i64 201, .int .i64 401, .int .i64 301, .int .i64 301, .int .i64 202, .int .i64 102, .int .i64 103, .int .i64 301, .int .i64 301, .int .i64 202, .int .i64 401, .int .i64 401, .int .i64 301] 3 w3 [.slice (some ⟨gu, 0, none⟩) 1 1, .slice (some ⟨gk, 0, none⟩) 1 1, .slice (some ⟨gg, 0, none⟩) 7 7, .int .i64 0, .int .i64 0, .int .i64 0, .int .i64 0, .int .i64 0, .int .i64 0, .int .i64 0, .int .i64 0, .int .i64 0, .int .i64 0, .int .i64 0, .int .i64 0, .int .i64 0, .int .i64 0, .slice none 0 0, .slice none 0 0, .slice none 0 0, .slice none 0 0, .slice none 0 0] kb4) (congrArg List.toArray (show setAll [.slice (some ⟨gu, 0, none⟩) 1 1, .slice (some ⟨gk, 0, none⟩) 1 1, .slice (some ⟨gg, 0, none⟩) 7 7, .int .i64 0, .int .i64 0, .int .i64 0, .int .i64 0, .int .i64 0, .int .i64 0, .int .i64 0, .int .i64 0, .int .i64 0, .int .i64 0, .int .i64 0, .int .i64 0, .int .i64 0, .int .i64 0, .slice none 0 0, .slice none 0 0, .slice none 0 0, .slice none 0 0, .slice none 0 0] 3 [.int .i64 101, .int .i64 201, .int .i64 401, .int .i64 301, .int .i64 301, .int .i64 202, .int .i64 102, .int .i64 103, .int .i64 301, .int .i64 301, .int .i64 202, .int .i64 401, .int .i64 401, .int .i64 301] = [.slice (some ⟨gu, 0, none⟩) 1 1, .slice (some ⟨gk, 0, none⟩) 1 1, .slice (some ⟨gg, 0, none⟩) 7 7, .int .i64 101, .int .i64 201, .int .i64 401, .int .i64 301, .int .i64 301, .int .i64 202, .int .i64 102, .int .i64 103, .int .i64 301, .int .i64 301, .int .i64 202, .int .i64 401, .int .i64 401, .int .i64 301, .slice none 0 0, .slice none 0 0, .slice none 0 0, .slice none 0 0, .slice none 0 0] by kernel_rfl))
 have c4 : Below w.heap.size w (w3.setCells gb 3 [.int .i64 101, .int .i64 201, .int .i64 401, .int .i64 301, .int .i64 301, .int .i64 202, .int .i64 102, .int .i64 103, .int .i64 301, .int .i64 301, .int .i64 202, .int .i64 401, .int .i64 401, .int .i64 301]) := Below_setCells lb _ _ _ c3
 have kg5 := Blk_setCells_ne ng [.int .i64 101, .int .i64 201, .int .i64 401, .int .i64 301, .int .i64 301, .int .i64 202, .int .i64 102, .int .i64 103, .int .i64 301, .int .i64 301, .int .i64 202, .int .i64 401, .int .i64 401, .int .i64 301] 3 _ kg
 have ku5 := Blk_setCells_ne nu [.int .i64 101, .int .i64 201, .int .i64 401, .int .i64 301, .int .i64 301, .int .i64 202, .int .i64 102, .int .i64 103, .int .i64 301, .int .i64 301, .int .i64 202, .int .i64 401, .int .i64 401, .int .i64 301] 3 _ ku3
 have kz5 := Blk_setCells_ne nb [.int .i64 101, .int .i64 201, .int .i64 401, .int .i64 301, .int .i64 301, .int .i64 202, .int .i64 102, .int .i64 103, .int .i64 301, .int .i64 301, .int .i64 202, .int .i64 401, .int .i64 401, .int .i64 301] 3 _ kz3
 generalize w3.setCells gb 3 [.int .i64 101, .int .i64 201, .int .i64 401, .int .i64 301, .int .i64 301, .int .i64 202, .int .i64 102, .int .i64 103, .int .i64 301, .int .i64 301, .int .i64 202, .int .i64 401, .int .i64 401, .int .i64 301] = w4 at *
 clear kb4 kg ku3 kz3 c3 ht
 (try simp only [Act.put])
 have c5 : Below w.heap.size w ((w4.alloc (.cells #[.int .i64 0, .int .i64 36000] 66)).alloc (.cells #[.slice (some ⟨w4.heap.size, 0, none⟩) 1 1, .bool false, .int .i64 1, .int .i64 6, .bool false] 69)) := (c4.alloc (Below.size c4) _).alloc (by simp only [World.size_alloc]; have := Below.size c4; omega) _
 have ki : Bk.Blk ((w4.alloc (.cells #[.int .i64 0, .int .i64 36000] 66)).alloc (.cells #[.slice (some ⟨w4.heap.size, 0, none⟩) 1 1, .bool false, .int .i64 1, .int .i64 6, .bool false] 69)) (w4.heap.size + 1) _ 69 := Bk.Blk.nw21
 have kb6 : Bk.Blk ((w4.alloc (.cells #[.int .i64 0, .int .i64 36000] 66)).alloc (.cells #[.slice (some ⟨w4.heap.size, 0, none⟩) 1 1, .bool false, .int .i64 1, .int .i64 6, .bool false] 69)) gb _ _ := Bk.Blk.alloc (Bk.Blk.alloc kb5)
 have kg6 : Bk.Blk ((w4.alloc (.cells #[.int .i64 0, .int .i64 36000] 66)).alloc (.cells #[.slice (some ⟨w4.heap.size, 0, none⟩) 1 1, .bool false, .int .i64 1, .int .i64 6, .bool false] 69)) gg _ _ := Bk.Blk.alloc (Bk.Blk.alloc kg5)
 have ku6 : Bk.Blk ((w4.alloc (.cells #[.int .i64 0, .int .i64 36000] 66)).alloc (.cells #[.slice (some ⟨w4.heap.size, 0, none⟩) 1 1, .bool false, .int .i64 1, .int .i64 6, .bool false] 69)) gu _ _ := Bk.Blk.alloc (Bk.Blk.alloc ku5)
 have kz6 : Bk.Blk ((w4.alloc (.cells #[.int .i64 0, .int .i64 36000] 66)).alloc (.cells #[.slice (some ⟨w4.heap.size, 0, none⟩) 1 1, .bool false, .int .i64 1, .int .i64 6, .bool false] 69)) w.heap.size _ _ := Bk.Blk.alloc (Bk.Blk.alloc kz5)
 go_upto_region 5 with fail
 generalize ((w4.alloc (.cells #[.int .i64 0, .int .i64 36000] 66)).alloc (.cells _ 69)) = w5 at *
 obtain ⟨gt, hgt⟩ : ∃ gt, gt = w4.heap.size := ⟨_, rfl⟩
 obtain ⟨gi, hgi⟩ : ∃ gi, gi = w4.heap.size + 1 := ⟨_, rfl⟩
 rw [← hgi, ← hgt] at ki
 rw [← hgi, ← hgt]
 clear hgt hgi kb5 kg5 ku5 kz5 c4
 (try simp only [Act.put])
 have kb7 : Bk.Blk (w5.alloc (.cells #[.string ⟨#[103, 105, 114, 111]⟩, .string ⟨#[69, 85, 82]⟩, .string ⟨#[104, 111, 109, 101]⟩, .int .i64 9000, .int .i64 1, .int .i64 500, .int .i64 0, .slice (some ⟨gt, 0, none⟩) 1 1, .bool false, .int .i64 1, .int .i64 6, .bool false, .slice (some ⟨gt, 0, none⟩) 1 1, .bool false, .int .i64 1, .int .i64 6, .bool false, .slice none 0 0, .slice none 0 0] 73)) gb _ _ := Bk.Blk.alloc kb6
 have l17 := kb7.c17
 have f17 := kb7.f17
 have li := kb6.lt
 have i0 := ki.c0
 have i1 := ki.c1
 have i2 := ki.c2
 have i3 := ki.c3
 have i4 := ki.c4
 go_upto_region 6 with fail
 have c6 : Below w.heap.size w ((w5.setCell ⟨gb, 17, none⟩ (.slice (some ⟨w5.heap.size, 0, none⟩) 1 1)).alloc (.cells #[.string ⟨#[103, 105, 114, 111]⟩, .string ⟨#[69, 85, 82]⟩, .string ⟨#[104, 111, 109, 101]⟩, .int .i64 9000, .int .i64 1, .int .i64 500, .int .i64 0, .slice (some ⟨gt, 0, none⟩) 1 1, .bool false, .int .i64 1, .int .i64 6, .bool false, .slice (some ⟨gt, 0, none⟩) 1 1, .bool false, .int .i64 1, .int .i64 6, .bool false, .slice none 0 0, .slice none 0 0] 73)) := (c5.setCell (p := ⟨gb, 17, none⟩) lb _).alloc (by simp only [World.setCell, Array.size_modify]; exact Below.size c5) _
 have kb8 : Bk.Blk ((w5.setCell ⟨gb, 17, none⟩ (.slice (some ⟨w5.heap.size, 0, none⟩) 1 1)).alloc (.cells #[.string ⟨#[103, 105, 114, 111]⟩, .string ⟨#[69, 85, 82]⟩, .string ⟨#[104, 111, 109, 101]⟩, .int .i64 9000, .int .i64 1, .int .i64 500, .int .i64 0, .slice (some ⟨gt, 0, none⟩) 1 1, .bool false, .int .i64 1, .int .i64 6, .bool false, .slice (some ⟨gt, 0, none⟩) 1 1, .bool false, .int .i64 1, .int .i64 6, .bool false, .slice none 0 0, .slice none 0 0] 73)) gb #[.slice (some ⟨gu, 0, none⟩) 1 1, .slice (some ⟨gk, 0, none⟩) 1 1, .slice (some ⟨gg, 0, none⟩) 7 7, .int .i64 101, .int .i64 201, .int .i64 401, .int .i64 301, .int .i64 301, .int .i64 202, .int .i64 102, .int .i64 103, .int .i64 301, .int .i64 301, .int .i64 202, .int .i64 401, .int .i64 401, .int .i64 301, .slice (some ⟨w5.heap.size, 0, none⟩) 1 1, .slice none 0 0, .slice none 0 0, .slice none 0 0, .slice none 0 0] 33 := Bk.Blk.alloc (Bk.Blk.set_same kb6)
 have kp : Bk.Blk ((w5.setCell ⟨gb, 17, none⟩ (.slice (some ⟨w5.heap.size, 0, none⟩) 1 1)).alloc (.cells #[.string ⟨#[103, 105, 114, 111]⟩, .string ⟨#[69, 85, 82]⟩, .string ⟨#[104, 111, 109, 101]⟩, .int .i64 9000, .int .i64 1, .int .i64 500, .int .i64 0, .slice (some ⟨gt, 0, none⟩) 1 1, .bool false, .int .i64 1, .int .i64 6, .bool false, .slice (some ⟨gt, 0, none⟩) 1 1, .bool false, .int .i64 1, .int .i64 6, .bool false, .slice none 0 0, .slice none 0 0] 73)) w5.heap.size #[.string ⟨#[103, 105, 114, 111]⟩, .string ⟨#[69, 85, 82]⟩, .string ⟨#[104, 111, 109, 101]⟩, .int .i64 9000, .int .i64 1, .int .i64 500, .int .i64 0, .slice (some ⟨gt, 0, none⟩) 1 1, .bool false, .int .i64 1, .int .i64 6, .bool false, .slice (some ⟨gt, 0, none⟩) 1 1, .bool false, .int .i64 1, .int .i64 6, .bool false, .slice none 0 0, .slice none 0 0] 73 := Bk.Blk.new (by simp [World.setCell])
 have kg8 : Bk.Blk ((w5.setCell ⟨gb, 17, none⟩ (.slice (some ⟨w5.heap.size, 0, none⟩) 1 1)).alloc (.cells #[.string ⟨#[103, 105, 114, 111]⟩, .string ⟨#[69, 85, 82]⟩, .string ⟨#[104, 111, 109, 101]⟩, .int .i64 9000, .int .i64 1, .int .i64 500, .int .i64 0, .slice (some ⟨gt, 0, none⟩) 1 1, .bool false, .int .i64 1, .int .i64 6, .bool false, .slice (some ⟨gt, 0, none⟩) 1 1, .bool false, .int .i64 1, .int .i64 6, .bool false, .slice none 0 0, .slice none 0 0] 73)) gg _ _ := Bk.Blk.alloc (Bk.Blk.set_ne kg6 ng)
 have ku8 : Bk.Blk ((w5.setCell ⟨gb, 17, none⟩ (.slice (some ⟨w5.heap.size, 0, none⟩) 1 1)).alloc (.cells #[.string ⟨#[103, 105, 114, 111]⟩, .string ⟨#[69, 85, 82]⟩, .string ⟨#[104, 111, 109, 101]⟩, .int .i64 9000, .int .i64 1, .int .i64 500, .int .i64 0, .slice (some ⟨gt, 0, none⟩) 1 1, .bool false, .int .i64 1, .int .i64 6, .bool false, .slice (some ⟨gt, 0, none⟩) 1 1, .bool false, .int .i64 1, .int .i64 6, .bool false, .slice none 0 0, .slice none 0 0] 73)) gu _ _ := Bk.Blk.alloc (Bk.Blk.set_ne ku6 nu)
 have kz8 : Bk.Blk ((w5.setCell ⟨gb, 17, none⟩ (.slice (some ⟨w5.heap.size, 0, none⟩) 1 1)).alloc (.cells #[.string ⟨#[103, 105, 114, 111]⟩, .string ⟨#[69, 85, 82]⟩, .string ⟨#[104, 111, 109, 101]⟩, .int .i64 9000, .int .i64 1, .int .i64 500, .int .i64 0, .slice (some ⟨gt, 0, none⟩) 1 1, .bool false, .int .i64 1, .int .i64 6, .bool false, .slice (some ⟨gt, 0, none⟩) 1 1, .bool false, .int .i64 1, .int .i64 6, .bool false, .slice none 0 0, .slice none 0 0] 73)) w.heap.size _ _ := Bk.Blk.alloc (Bk.Blk.set_ne kz6 nb)
 generalize ((w5.setCell ⟨gb, 17, none⟩ (.slice (some ⟨w5.heap.size, 0, none⟩) 1 1)).alloc (.cells _ 73)) = w6 at *
 obtain ⟨gp, hgp⟩ : ∃ gp, gp = w5.heap.size := ⟨_, rfl⟩
 rw [← hgp] at kb8 kp ⊢
 have np : gp ≠ gb := by omega
 have npz : gp ≠ w.heap.size := by have := kz8.lt; have := kb8.lt; have := Below.size c5; omega
 clear hgp kb7 l17 f17 li i0 i1 i2 i3 i4 ki kb6 kg6 ku6 kz6 c5
 (try simp only [Act.put])
 go_wp2_with fail
 refine (number_any 1000 _ (by decide) (by decide)).mono ?_
 rintro e w7 ⟨⟨n0, rfl⟩, hb⟩
 replace kb8 := kb8.later hb
 replace kp := kp.later hb
 replace kg8 := kg8.later hb
 replace ku8 := ku8.later hb
 replace kz8 := kz8.later hb
 have c7 := bl2 hb c6
 clear hb c6
 go_wp2_with fail
 refine (number_any 1001 _ (by decide) (by decide)).mono ?_
 rintro e w8 ⟨⟨n1, rfl⟩, hb⟩
 replace kb8 := kb8.later hb
 replace kp := kp.later hb
 replace kg8 := kg8.later hb
 replace ku8 := ku8.later hb
 replace kz8 := kz8.later hb
 have c8 := bl2 hb c7
 clear hb c7
 have kb9 : Bk.Blk (w8.alloc (.cells #[.int .i64 1000, .int .i64 9678, .int .i64 0, .int .i64 0, .string ⟨#[97, 110, 110, 97]⟩, .string ⟨#[103, 105, 114, 111]⟩, .string n0, .int .i64 1001, .int .i64 9678, .int .i64 0, .int .i64 0, .string ⟨#[98, 101, 110]⟩, .string ⟨#[103, 105, 114, 111]⟩, .string n1] 76)) gb _ _ := Bk.Blk.alloc kb8
 have l18 := kb9.c18
 have f18 := kb9.f18
 have li := kb8.lt
 go_upto_region 7 with fail
 have c9 : Below w.heap.size w ((w8.setCell ⟨gb, 18, none⟩ (.slice (some ⟨w8.heap.size, 0, none⟩) 2 2)).alloc (.cells #[.int .i64 1000, .int .i64 9678, .int .i64 0, .int .i64 0, .string ⟨#[97, 110, 110, 97]⟩, .string ⟨#[103, 105, 114, 111]⟩, .string n0, .int .i64 1001, .int .i64 9678, .int .i64 0, .int .i64 0, .string ⟨#[98, 101, 110]⟩, .string ⟨#[103, 105, 114, 111]⟩, .string n1] 76)) := (c8.setCell (p := ⟨gb, 18, none⟩) lb _).alloc (by simp only [World.setCell, Array.size_modify]; exact Below.size c8) _
 have kb10 : Bk.Blk ((w8.setCell ⟨gb, 18, none⟩ (.slice (some ⟨w8.heap.size, 0, none⟩) 2 2)).alloc (.cells #[.int .i64 1000, .int .i64 9678, .int .i64 0, .int .i64 0, .string ⟨#[97, 110, 110, 97]⟩, .string ⟨#[103, 105, 114, 111]⟩, .string n0, .int .i64 1001, .int .i64 9678, .int .i64 0, .int .i64 0, .string ⟨#[98, 101, 110]⟩, .string ⟨#[103, 105, 114, 111]⟩, .string n1] 76)) gb #[.slice (some ⟨gu, 0, none⟩) 1 1, .slice (some ⟨gk, 0, none⟩) 1 1, .slice (some ⟨gg, 0, none⟩) 7 7, .int .i64 101, .int .i64 201, .int .i64 401, .int .i64 301, .int .i64 301, .int .i64 202, .int .i64 102, .int .i64 103, .int .i64 301, .int .i64 301, .int .i64 202, .int .i64 401, .int .i64 401, .int .i64 301, .slice (some ⟨gp, 0, none⟩) 1 1, .slice (some ⟨w8.heap.size, 0, none⟩) 2 2, .slice none 0 0, .slice none 0 0, .slice none 0 0] 33 := Bk.Blk.alloc (Bk.Blk.set_same kb8)
 have ka : Bk.Blk ((w8.setCell ⟨gb, 18, none⟩ (.slice (some ⟨w8.heap.size, 0, none⟩) 2 2)).alloc (.cells #[.int .i64 1000, .int .i64 9678, .int .i64 0, .int .i64 0, .string ⟨#[97, 110, 110, 97]⟩, .string ⟨#[103, 105, 114, 111]⟩, .string n0, .int .i64 1001, .int .i64 9678, .int .i64 0, .int .i64 0, .string ⟨#[98, 101, 110]⟩, .string ⟨#[103, 105, 114, 111]⟩, .string n1] 76)) w8.heap.size #[.int .i64 1000, .int .i64 9678, .int .i64 0, .int .i64 0, .string ⟨#[97, 110, 110, 97]⟩, .string ⟨#[103, 105, 114, 111]⟩, .string n0, .int .i64 1001, .int .i64 9678, .int .i64 0, .int .i64 0, .string ⟨#[98, 101, 110]⟩, .string ⟨#[103, 105, 114, 111]⟩, .string n1] 76 := Bk.Blk.new (by simp [World.setCell])
 have kp9 : Bk.Blk ((w8.setCell ⟨gb, 18, none⟩ (.slice (some ⟨w8.heap.size, 0, none⟩) 2 2)).alloc (.cells #[.int .i64 1000, .int .i64 9678, .int .i64 0, .int .i64 0, .string ⟨#[97, 110, 110, 97]⟩, .string ⟨#[103, 105, 114, 111]⟩, .string n0, .int .i64 1001, .int .i64 9678, .int .i64 0, .int .i64 0, .string ⟨#[98, 101, 110]⟩, .string ⟨#[103, 105, 114, 111]⟩, .string n1] 76)) gp _ _ := Bk.Blk.alloc (Bk.Blk.set_ne kp np)
 have kg9 : Bk.Blk ((w8.setCell ⟨gb, 18, none⟩ (.slice (some ⟨w8.heap.size, 0, none⟩) 2 2)).alloc (.cells #[.int .i64 1000, .int .i64 9678, .int .i64 0, .int .i64 0, .string ⟨#[97, 110, 110, 97]⟩, .string ⟨#[103, 105, 114, 111]⟩, .string n0, .int .i64 1001, .int .i64 9678, .int .i64 0, .int .i64 0, .string ⟨#[98, 101, 110]⟩, .string ⟨#[103, 105, 114, 111]⟩, .string n1] 76)) gg _ _ := Bk.Blk.alloc (Bk.Blk.set_ne kg8 ng)
 have ku9 : Bk.Blk ((w8.setCell ⟨gb, 18, none⟩ (.slice (some ⟨w8.heap.size, 0, none⟩) 2 2)).alloc (.cells #[.int .i64 1000, .int .i64 9678, .int .i64 0, .int .i64 0, .string ⟨#[97, 110, 110, 97]⟩, .string ⟨#[103, 105, 114, 111]⟩, .string n0, .int .i64 1001, .int .i64 9678, .int .i64 0, .int .i64 0, .string ⟨#[98, 101, 110]⟩, .string ⟨#[103, 105, 114, 111]⟩, .string n1] 76)) gu _ _ := Bk.Blk.alloc (Bk.Blk.set_ne ku8 nu)
 have kz9 : Bk.Blk ((w8.setCell ⟨gb, 18, none⟩ (.slice (some ⟨w8.heap.size, 0, none⟩) 2 2)).alloc (.cells #[.int .i64 1000, .int .i64 9678, .int .i64 0, .int .i64 0, .string ⟨#[97, 110, 110, 97]⟩, .string ⟨#[103, 105, 114, 111]⟩, .string n0, .int .i64 1001, .int .i64 9678, .int .i64 0, .int .i64 0, .string ⟨#[98, 101, 110]⟩, .string ⟨#[103, 105, 114, 111]⟩, .string n1] 76)) w.heap.size _ _ := Bk.Blk.alloc (Bk.Blk.set_ne kz8 nb)
 generalize ((w8.setCell ⟨gb, 18, none⟩ (.slice (some ⟨w8.heap.size, 0, none⟩) 2 2)).alloc (.cells _ 76)) = w9 at *
 obtain ⟨ga, hga⟩ : ∃ ga, ga = w8.heap.size := ⟨_, rfl⟩
 rw [← hga] at kb10 ka ⊢
 have gz := Below.size c8
 have ha2 : ga ≠ w.heap.size := by omega
 have nbz : gb ≠ w.heap.size := Ne.symm nb
 (try simp only [Act.put])
 go_wp2_with (first | (refine wpList_load_row rfl 33 _ rfl _ rfl _ _ _ _ (kb10) Tryz.underlying33 rfl (by kernel_rfl) ?_) | (refine wpList_store_row rfl 33 _ _ rfl _ _ rfl rfl _ _ (kz9) (by kernel_rfl) rfl (by simp [Value.oneCell']) ?_))
 (try simp only [Exit.inBlock, Exit.then])
 refine bodyPost_ret (results1_cell Tryz.results9 _ _ _ _ _ _ _ rfl (Blk_setRow_same kz9) Tryz.underlying33 rfl (by kernel_rfl)) rfl ?_
 refine ⟨⟨⟨some ⟨gu, 0, none⟩, 1, exU, some ⟨gk, 0, none⟩, 1, 1, some ⟨gg, 0, none⟩, 7, exG, exPl, some ⟨gp, 0, none⟩, 1, [exP (some ⟨gt, 0, none⟩)], some ⟨ga, 0, none⟩, 2, exA n0 n1, none, 0, [], none, 0, 0, none, 0, 0⟩, rfl, ⟨?_, ?_, ?_, ?_, ?_, (show 1 ≤ 100000 ∧ 7 ≤ 100000 ∧ 1 ≤ 100000 ∧ 2 ≤ 100000 ∧ 0 ≤ 100000 by decide)⟩, ⟨rfl, rfl, rfl, ⟨_, rfl⟩, ⟨_, _, rfl⟩, ⟨rfl, rfl, rfl⟩, ⟨rfl, rfl, rfl⟩⟩⟩, Below_setRow c9 (by omega) _⟩
 ·exact row_of_blk (Bk.Blk.conv (Blk_setRow_ne ku9 nuz) (by kernel_rfl))
 ·exact row_of_blk (Bk.Blk.conv (Blk_setRow_ne kg9 ngz) (by kernel_rfl))
 ·exact row_of_blk (Bk.Blk.conv (Blk_setRow_ne kp9 npz) (by kernel_rfl))
 ·exact row_of_blk (Bk.Blk.conv (Blk_setRow_ne ka ha2) (by kernel_rfl))
 ·exact fun h => absurd h (Nat.lt_irrefl _)
end Go.Proofs.YtjhpiclnpmdjnaaGreatDoor.Bm
