/-
  Parts of the proof: B15.
-/
import Derived.Test.YtjhpiclnpmdjnaaGreatDoorQ17
import Derived.Test.YtjhpiclnpmdjnaaGreatDoorQ13
import Derived.Defers
namespace Go.Proofs.YtjhpiclnpmdjnaaGreatDoor.Bm
open Go Go.RowKit
open Go.Proofs.YtjhpiclnpmdjnaaGreatDoor
open Go.Proofs.YtjhpiclnpmdjnaaGreatDoor.Ln (flat flat_len flat_get flat_mem RowIn OwnR Idx bl2 results2_cell Blk_setRow_same Blk_setRow_ne Below_setRow)
set_option linter.unusedSimpArgs false
set_option linter.unusedVariables false
set_option maxRecDepth 100000

theorem post1_ok (g1 g2 g3 : Nat) (a1 a2 : Option Addr) (n c1 c2 : Nat) (u : FrameMode) (w : World) (hn : n ≤ 100000) (h1 : w.cell? ⟨g1, 0, none⟩ = some (.int .i64 0)) (h2 : w.cell? ⟨g2, 19, none⟩ = some (.slice a1 (n + 1) c1)) (h3 : w.cell? ⟨g3, 19, none⟩ = some (.slice a2 n c2)) :
  CallsD Tryz.prog 22 #[.pointer (some ⟨g1, 0, none⟩), .pointer (some ⟨g2, 0, none⟩), .pointer (some ⟨g3, 0, none⟩)] u w fun e u' w' => u' = u ∧ (e = .returned (.tuple #[]) ∧ w = w') := by
 have d1 : (((n : Int) + 1) != ((n : Int) + 1)) = false := by simp
 go_enter_d Tryz.func22, Tryz.ntmps22
 go_wp2_with fail
 go_end0
 exact ⟨rfl, rfl⟩
def Bo.post (B : Bo) (g : Nat) (e : En) : Bo := { B with ja := some ⟨g, 0, none⟩, jk := 1, js := [e] }
theorem results_cells {P : Program} {fn : Func} {p q : Tmp} {ty tz : TypeId} (h : fn.results = #[.cell p ty, .cell q tz]) (tmps : Array Value) (w : World) (g g' : Nat) (t : TypeId) (cs : Array Value) (fr : Nat × Nat) (d : TypeDesc) (v : Value)
  (hp : tmps.getD p undef = .pointer (some ⟨g, 0, none⟩)) (hq : tmps.getD q undef = .pointer (some ⟨g', 0, none⟩)) (hg : w.heap[g]? = some (.cells cs t fr))
  (hu : P.underlying ty = some d) (hd : (match d with | .struct _ | .array _ _ => true | _ => false) = true) (hi : (P.info? ty).map (·.size) = some cs.size)
  (hv : (loadVar tz ⟨g', 0, none⟩).run P w = .ok v w) :
  (results fn tmps).run P w = .ok (.tuple #[.agg cs, v]) w := by
 have hp' : tmps[p]?.getD undef = .pointer (some ⟨g, 0, none⟩) := by simpa using hp
 have hq' : tmps[q]?.getD undef = .pointer (some ⟨g', 0, none⟩) := by simpa using hq
 simp [results, h, hp', hq', asAddr, run_loadVar_row w g t ty cs fr d hg hu hd hi, hv]
def PostOk (B : Bo) (e0 : En) (w : World) (e : Ending) (w' : World) : Prop := ∃ g la lk r, e = .returned (.tuple #[(.agg #[.slice ((B.post g (e0.sld 1 la lk r))).ua ((B.post g (e0.sld 1 la lk r))).us.length ((B.post g (e0.sld 1 la lk r))).uk, .slice ((B.post g (e0.sld 1 la lk r))).ka ((B.post g (e0.sld 1 la lk r))).kn ((B.post g (e0.sld 1 la lk r))).kk, .slice ((B.post g (e0.sld 1 la lk r))).ga ((B.post g (e0.sld 1 la lk r))).gs.length ((B.post g (e0.sld 1 la lk r))).gk, .int .i64 (((B.post g (e0.sld 1 la lk r))).pl).p0, .int .i64 (((B.post g (e0.sld 1 la lk r))).pl).p1, .int .i64 (((B.post g (e0.sld 1 la lk r))).pl).p2, .int .i64 (((B.post g (e0.sld 1 la lk r))).pl).p3, .int .i64 (((B.post g (e0.sld 1 la lk r))).pl).p4, .int .i64 (((B.post g (e0.sld 1 la lk r))).pl).p5, .int .i64 (((B.post g (e0.sld 1 la lk r))).pl).p6, .int .i64 (((B.post g (e0.sld 1 la lk r))).pl).p7, .int .i64 (((B.post g (e0.sld 1 la lk r))).pl).p8, .int .i64 (((B.post g (e0.sld 1 la lk r))).pl).p9, .int .i64 (((B.post g (e0.sld 1 la lk r))).pl).p10, .int .i64 (((B.post g (e0.sld 1 la lk r))).pl).p11, .int .i64 (((B.post g (e0.sld 1 la lk r))).pl).p12, .int .i64 (((B.post g (e0.sld 1 la lk r))).pl).p13, .slice ((B.post g (e0.sld 1 la lk r))).pa ((B.post g (e0.sld 1 la lk r))).ps.length ((B.post g (e0.sld 1 la lk r))).pk, .slice ((B.post g (e0.sld 1 la lk r))).aa ((B.post g (e0.sld 1 la lk r))).as.length ((B.post g (e0.sld 1 la lk r))).ak, .slice ((B.post g (e0.sld 1 la lk r))).ja ((B.post g (e0.sld 1 la lk r))).js.length ((B.post g (e0.sld 1 la lk r))).jk, .slice ((B.post g (e0.sld 1 la lk r))).ha ((B.post g (e0.sld 1 la lk r))).hn ((B.post g (e0.sld 1 la lk r))).hk, .slice ((B.post g (e0.sld 1 la lk r))).ba ((B.post g (e0.sld 1 la lk r))).bn ((B.post g (e0.sld 1 la lk r))).bk]), .int .i64 0]) ∧ RowIn enenc w' (some ⟨g, 0, none⟩) [e0.sld 1 la lk r] ∧ RowIn lgenc w' la e0.lg ∧ Below w.heap.size w w'
set_option maxHeartbeats 16000000 in
theorem post_ok (B : Bo) (e0 : En) (c : ByteArray) (w : World) (h : BoIn w B) (hj : B.ja = none ∧ B.jk = 0 ∧ B.js = []) (hg : EnG e0 c) (hs : EnS e0) (hal : AlG B e0) (hle : lgsE B e0.bo e0.lg = 0) (hl : RowIn lgenc w e0.la e0.lg) (ht : Tab w) :
  Calls Tryz.prog 10 #[(.agg #[.slice (B).ua (B).us.length (B).uk, .slice (B).ka (B).kn (B).kk, .slice (B).ga (B).gs.length (B).gk, .int .i64 ((B).pl).p0, .int .i64 ((B).pl).p1, .int .i64 ((B).pl).p2, .int .i64 ((B).pl).p3, .int .i64 ((B).pl).p4, .int .i64 ((B).pl).p5, .int .i64 ((B).pl).p6, .int .i64 ((B).pl).p7, .int .i64 ((B).pl).p8, .int .i64 ((B).pl).p9, .int .i64 ((B).pl).p10, .int .i64 ((B).pl).p11, .int .i64 ((B).pl).p12, .int .i64 ((B).pl).p13, .slice (B).pa (B).ps.length (B).pk, .slice (B).aa (B).as.length (B).ak, .slice (B).ja (B).js.length (B).jk, .slice (B).ha (B).hn (B).hk, .slice (B).ba (B).bn (B).bk]), (.agg #[.int .i64 (e0).id, .int .i64 (e0).bo, .int .i64 (e0).va, .int .i64 (e0).ki, .int .i64 (e0).au, .int .i64 (e0).pe, .string (e0).ke, .string (e0).tx, .slice (e0).la (e0).lg.length (e0).lk, .int .u64 (e0).ch])] w (PostOk B e0 w) := by
 have HR := Lib.hid (fun (W : World) (hW : Below w.heap.size w W) => h.later hW)
 have HL := Lib.hid (fun (W : World) (hW : Below w.heap.size w W) => hl.later hW)
 have HT := Lib.hid (fun (W : World) (hW : Below w.heap.size w W) => ht.of hW)
 have HG := Lib.hid hg
 have HS := Lib.hid hs
 have HA := Lib.hid hal
 have HE := Lib.hid hle
 have HJ := Lib.hid hj
 clear h hj hg hs hal hle hl ht
 have hmf : ∀ (fn : Fn) (first cap : Array Value) (w : World), (Instr.makeFunc fn first cap).run Tryz.prog w = .ok (.func fn first cap) w := fun _ _ _ _ => rfl
 have c1 : Below w.heap.size w ((((w.alloc (.cells #[.slice (B).ua (B).us.length (B).uk, .slice (B).ka (B).kn (B).kk, .slice (B).ga (B).gs.length (B).gk, .int .i64 ((B).pl).p0, .int .i64 ((B).pl).p1, .int .i64 ((B).pl).p2, .int .i64 ((B).pl).p3, .int .i64 ((B).pl).p4, .int .i64 ((B).pl).p5, .int .i64 ((B).pl).p6, .int .i64 ((B).pl).p7, .int .i64 ((B).pl).p8, .int .i64 ((B).pl).p9, .int .i64 ((B).pl).p10, .int .i64 ((B).pl).p11, .int .i64 ((B).pl).p12, .int .i64 ((B).pl).p13, .slice (B).pa (B).ps.length (B).pk, .slice (B).aa (B).as.length (B).ak, .slice (B).ja (B).js.length (B).jk, .slice (B).ha (B).hn (B).hk, .slice (B).ba (B).bn (B).bk] 33)).alloc (.cells #[.int .i64 (e0).id, .int .i64 (e0).bo, .int .i64 (e0).va, .int .i64 (e0).ki, .int .i64 (e0).au, .int .i64 (e0).pe, .string (e0).ke, .string (e0).tx, .slice (e0).la (e0).lg.length (e0).lk, .int .u64 (e0).ch] 39)).alloc (.cells #[.slice none 0 0, .slice none 0 0, .slice none 0 0, .int .i64 0, .int .i64 0, .int .i64 0, .int .i64 0, .int .i64 0, .int .i64 0, .int .i64 0, .int .i64 0, .int .i64 0, .int .i64 0, .int .i64 0, .int .i64 0, .int .i64 0, .int .i64 0, .slice none 0 0, .slice none 0 0, .slice none 0 0, .slice none 0 0, .slice none 0 0] 33)).alloc (.cells #[.int .i64 0] 43)) := Bk.be
 have kb : Bk.Blk ((((w.alloc (.cells #[.slice (B).ua (B).us.length (B).uk, .slice (B).ka (B).kn (B).kk, .slice (B).ga (B).gs.length (B).gk, .int .i64 ((B).pl).p0, .int .i64 ((B).pl).p1, .int .i64 ((B).pl).p2, .int .i64 ((B).pl).p3, .int .i64 ((B).pl).p4, .int .i64 ((B).pl).p5, .int .i64 ((B).pl).p6, .int .i64 ((B).pl).p7, .int .i64 ((B).pl).p8, .int .i64 ((B).pl).p9, .int .i64 ((B).pl).p10, .int .i64 ((B).pl).p11, .int .i64 ((B).pl).p12, .int .i64 ((B).pl).p13, .slice (B).pa (B).ps.length (B).pk, .slice (B).aa (B).as.length (B).ak, .slice (B).ja (B).js.length (B).jk, .slice (B).ha (B).hn (B).hk, .slice (B).ba (B).bn (B).bk] 33)).alloc (.cells #[.int .i64 (e0).id, .int .i64 (e0).bo, .int .i64 (e0).va, .int .i64 (e0).ki, .int .i64 (e0).au, .int .i64 (e0).pe, .string (e0).ke, .string (e0).tx, .slice (e0).la (e0).lg.length (e0).lk, .int .u64 (e0).ch] 39)).alloc (.cells #[.slice none 0 0, .slice none 0 0, .slice none 0 0, .int .i64 0, .int .i64 0, .int .i64 0, .int .i64 0, .int .i64 0, .int .i64 0, .int .i64 0, .int .i64 0, .int .i64 0, .int .i64 0, .int .i64 0, .int .i64 0, .int .i64 0, .int .i64 0, .slice none 0 0, .slice none 0 0, .slice none 0 0, .slice none 0 0, .slice none 0 0] 33)).alloc (.cells #[.int .i64 0] 43)) w.heap.size _ 33 := Bk.Blk.nw40
 have ke : Bk.Blk ((((w.alloc (.cells #[.slice (B).ua (B).us.length (B).uk, .slice (B).ka (B).kn (B).kk, .slice (B).ga (B).gs.length (B).gk, .int .i64 ((B).pl).p0, .int .i64 ((B).pl).p1, .int .i64 ((B).pl).p2, .int .i64 ((B).pl).p3, .int .i64 ((B).pl).p4, .int .i64 ((B).pl).p5, .int .i64 ((B).pl).p6, .int .i64 ((B).pl).p7, .int .i64 ((B).pl).p8, .int .i64 ((B).pl).p9, .int .i64 ((B).pl).p10, .int .i64 ((B).pl).p11, .int .i64 ((B).pl).p12, .int .i64 ((B).pl).p13, .slice (B).pa (B).ps.length (B).pk, .slice (B).aa (B).as.length (B).ak, .slice (B).ja (B).js.length (B).jk, .slice (B).ha (B).hn (B).hk, .slice (B).ba (B).bn (B).bk] 33)).alloc (.cells #[.int .i64 (e0).id, .int .i64 (e0).bo, .int .i64 (e0).va, .int .i64 (e0).ki, .int .i64 (e0).au, .int .i64 (e0).pe, .string (e0).ke, .string (e0).tx, .slice (e0).la (e0).lg.length (e0).lk, .int .u64 (e0).ch] 39)).alloc (.cells #[.slice none 0 0, .slice none 0 0, .slice none 0 0, .int .i64 0, .int .i64 0, .int .i64 0, .int .i64 0, .int .i64 0, .int .i64 0, .int .i64 0, .int .i64 0, .int .i64 0, .int .i64 0, .int .i64 0, .int .i64 0, .int .i64 0, .int .i64 0, .slice none 0 0, .slice none 0 0, .slice none 0 0, .slice none 0 0, .slice none 0 0] 33)).alloc (.cells #[.int .i64 0] 43)) (w.heap.size + 1) _ 39 := Bk.Blk.nw41
 have kz : Bk.Blk ((((w.alloc (.cells #[.slice (B).ua (B).us.length (B).uk, .slice (B).ka (B).kn (B).kk, .slice (B).ga (B).gs.length (B).gk, .int .i64 ((B).pl).p0, .int .i64 ((B).pl).p1, .int .i64 ((B).pl).p2, .int .i64 ((B).pl).p3, .int .i64 ((B).pl).p4, .int .i64 ((B).pl).p5, .int .i64 ((B).pl).p6, .int .i64 ((B).pl).p7, .int .i64 ((B).pl).p8, .int .i64 ((B).pl).p9, .int .i64 ((B).pl).p10, .int .i64 ((B).pl).p11, .int .i64 ((B).pl).p12, .int .i64 ((B).pl).p13, .slice (B).pa (B).ps.length (B).pk, .slice (B).aa (B).as.length (B).ak, .slice (B).ja (B).js.length (B).jk, .slice (B).ha (B).hn (B).hk, .slice (B).ba (B).bn (B).bk] 33)).alloc (.cells #[.int .i64 (e0).id, .int .i64 (e0).bo, .int .i64 (e0).va, .int .i64 (e0).ki, .int .i64 (e0).au, .int .i64 (e0).pe, .string (e0).ke, .string (e0).tx, .slice (e0).la (e0).lg.length (e0).lk, .int .u64 (e0).ch] 39)).alloc (.cells #[.slice none 0 0, .slice none 0 0, .slice none 0 0, .int .i64 0, .int .i64 0, .int .i64 0, .int .i64 0, .int .i64 0, .int .i64 0, .int .i64 0, .int .i64 0, .int .i64 0, .int .i64 0, .int .i64 0, .int .i64 0, .int .i64 0, .int .i64 0, .slice none 0 0, .slice none 0 0, .slice none 0 0, .slice none 0 0, .slice none 0 0] 33)).alloc (.cells #[.int .i64 0] 43)) (w.heap.size + 2) _ 33 := Bk.Blk.nw42
 have kc : Bk.Blk ((((w.alloc (.cells #[.slice (B).ua (B).us.length (B).uk, .slice (B).ka (B).kn (B).kk, .slice (B).ga (B).gs.length (B).gk, .int .i64 ((B).pl).p0, .int .i64 ((B).pl).p1, .int .i64 ((B).pl).p2, .int .i64 ((B).pl).p3, .int .i64 ((B).pl).p4, .int .i64 ((B).pl).p5, .int .i64 ((B).pl).p6, .int .i64 ((B).pl).p7, .int .i64 ((B).pl).p8, .int .i64 ((B).pl).p9, .int .i64 ((B).pl).p10, .int .i64 ((B).pl).p11, .int .i64 ((B).pl).p12, .int .i64 ((B).pl).p13, .slice (B).pa (B).ps.length (B).pk, .slice (B).aa (B).as.length (B).ak, .slice (B).ja (B).js.length (B).jk, .slice (B).ha (B).hn (B).hk, .slice (B).ba (B).bn (B).bk] 33)).alloc (.cells #[.int .i64 (e0).id, .int .i64 (e0).bo, .int .i64 (e0).va, .int .i64 (e0).ki, .int .i64 (e0).au, .int .i64 (e0).pe, .string (e0).ke, .string (e0).tx, .slice (e0).la (e0).lg.length (e0).lk, .int .u64 (e0).ch] 39)).alloc (.cells #[.slice none 0 0, .slice none 0 0, .slice none 0 0, .int .i64 0, .int .i64 0, .int .i64 0, .int .i64 0, .int .i64 0, .int .i64 0, .int .i64 0, .int .i64 0, .int .i64 0, .int .i64 0, .int .i64 0, .int .i64 0, .int .i64 0, .int .i64 0, .slice none 0 0, .slice none 0 0, .slice none 0 0, .slice none 0 0, .slice none 0 0] 33)).alloc (.cells #[.int .i64 0] 43)) (w.heap.size + 3) #[.int .i64 0] 43 := Bk.Blk.nw43
 go_enter_defers Tryz.func10, Tryz.ntmps10
 go_upto_region 1 with fail
 generalize ((((w.alloc (.cells _ 33)).alloc (.cells _ 39)).alloc (.cells _ 33)).alloc (.cells #[.int .i64 0] 43)) = w1 at *
 go_wp2_with ((refine wpList_load_row rfl 39 _ rfl _ rfl _ _ _ _ (ke) Tryz.underlying39 rfl (by kernel_rfl) ?_))
 refine (echeck_ok e0 c w1 HG.out (HL.out _ c1)).mono ?_
 rintro e w2 ⟨rfl, hb⟩
 have c2 := bl2 hb c1
 replace kb := kb.later hb
 replace ke := ke.later hb
 replace kz := kz.later hb
 replace kc := kc.later hb
 clear hb c1 hmf
 have kcc := kc.c0
 have kcf := kc.f0
 go_upto_region 3 with fail
 have d2 : Below w.heap.size w (w2.setCell ⟨w.heap.size + 3, 0, none⟩ (.int .i64 0)) := Below.setCell c2 (show w.heap.size ≤ w.heap.size + 3 by omega) _
 replace kb : Bk.Blk (w2.setCell ⟨w.heap.size + 3, 0, none⟩ (.int .i64 0)) w.heap.size #[.slice (B).ua (B).us.length (B).uk, .slice (B).ka (B).kn (B).kk, .slice (B).ga (B).gs.length (B).gk, .int .i64 ((B).pl).p0, .int .i64 ((B).pl).p1, .int .i64 ((B).pl).p2, .int .i64 ((B).pl).p3, .int .i64 ((B).pl).p4, .int .i64 ((B).pl).p5, .int .i64 ((B).pl).p6, .int .i64 ((B).pl).p7, .int .i64 ((B).pl).p8, .int .i64 ((B).pl).p9, .int .i64 ((B).pl).p10, .int .i64 ((B).pl).p11, .int .i64 ((B).pl).p12, .int .i64 ((B).pl).p13, .slice (B).pa (B).ps.length (B).pk, .slice (B).aa (B).as.length (B).ak, .slice (B).ja (B).js.length (B).jk, .slice (B).ha (B).hn (B).hk, .slice (B).ba (B).bn (B).bk] 33 := Bk.Blk.set_ne kb (by omega)
 replace ke : Bk.Blk (w2.setCell ⟨w.heap.size + 3, 0, none⟩ (.int .i64 0)) (w.heap.size + 1) #[.int .i64 (e0).id, .int .i64 (e0).bo, .int .i64 (e0).va, .int .i64 (e0).ki, .int .i64 (e0).au, .int .i64 (e0).pe, .string (e0).ke, .string (e0).tx, .slice (e0).la (e0).lg.length (e0).lk, .int .u64 (e0).ch] 39 := Bk.Blk.set_ne ke (by omega)
 replace kz : Bk.Blk (w2.setCell ⟨w.heap.size + 3, 0, none⟩ (.int .i64 0)) (w.heap.size + 2) #[.slice none 0 0, .slice none 0 0, .slice none 0 0, .int .i64 0, .int .i64 0, .int .i64 0, .int .i64 0, .int .i64 0, .int .i64 0, .int .i64 0, .int .i64 0, .int .i64 0, .int .i64 0, .int .i64 0, .int .i64 0, .int .i64 0, .int .i64 0, .slice none 0 0, .slice none 0 0, .slice none 0 0, .slice none 0 0, .slice none 0 0] 33 := Bk.Blk.set_ne kz (by omega)
 replace kc : Bk.Blk (w2.setCell ⟨w.heap.size + 3, 0, none⟩ (.int .i64 0)) (w.heap.size + 3) #[.int .i64 0] 43 := Bk.Blk.set_same kc
 clear kcc kcf
 generalize w2.setCell ⟨w.heap.size + 3, 0, none⟩ (.int .i64 0) = v2 at *
 have kcc := kc.c0
 have e6 := ke.c6
 have b19 := kb.c19
 rw [HJ.out.1, HJ.out.2.1, HJ.out.2.2] at b19
 go_wp2_with fail
 refine (jfind_any none 0 [] e0.ke v2 (by simp) (fun h => absurd h (Nat.lt_irrefl _))).mono ?_
 rintro e w3 ⟨rfl, hb⟩
 have c3 := bl2 hb d2
 replace kb := kb.later hb
 replace ke := ke.later hb
 replace kz := kz.later hb
 replace kc := kc.later hb
 rw [show fok (fun d : En => d.ke.toList == e0.ke.toList) [] = false from rfl]
 generalize fst' (fun d : En => d.ke.toList == e0.ke.toList) [] = zz at *
 clear hb d2 c2 kcc e6 b19
 have z3 := Below.size c3
 have hk3 := kc.lt
 go_upto_region 5 with ((refine wpList_store_row rfl 39 _ _ rfl _ _ rfl rfl _ _ (Bk.Blk.nw10) (by kernel_rfl) rfl (by simp [Value.oneCell']) ?_))
 have c4 : Below w.heap.size w ((w3.alloc (.cells #[.int .i64 0, .int .i64 0, .int .i64 0, .int .i64 0, .int .i64 0, .int .i64 0, .string { data := #[] }, .string { data := #[] }, .slice none 0 0, .int .u64 0] 39)).setRow w3.heap.size #[.int .i64 (zz).id, .int .i64 (zz).bo, .int .i64 (zz).va, .int .i64 (zz).ki, .int .i64 (zz).au, .int .i64 (zz).pe, .string (zz).ke, .string (zz).tx, .slice (zz).la (zz).lg.length (zz).lk, .int .u64 (zz).ch]) := Below_setRow (c3.alloc z3 _) z3 _
 replace kb : Bk.Blk ((w3.alloc (.cells #[.int .i64 0, .int .i64 0, .int .i64 0, .int .i64 0, .int .i64 0, .int .i64 0, .string { data := #[] }, .string { data := #[] }, .slice none 0 0, .int .u64 0] 39)).setRow w3.heap.size #[.int .i64 (zz).id, .int .i64 (zz).bo, .int .i64 (zz).va, .int .i64 (zz).ki, .int .i64 (zz).au, .int .i64 (zz).pe, .string (zz).ke, .string (zz).tx, .slice (zz).la (zz).lg.length (zz).lk, .int .u64 (zz).ch]) w.heap.size #[.slice (B).ua (B).us.length (B).uk, .slice (B).ka (B).kn (B).kk, .slice (B).ga (B).gs.length (B).gk, .int .i64 ((B).pl).p0, .int .i64 ((B).pl).p1, .int .i64 ((B).pl).p2, .int .i64 ((B).pl).p3, .int .i64 ((B).pl).p4, .int .i64 ((B).pl).p5, .int .i64 ((B).pl).p6, .int .i64 ((B).pl).p7, .int .i64 ((B).pl).p8, .int .i64 ((B).pl).p9, .int .i64 ((B).pl).p10, .int .i64 ((B).pl).p11, .int .i64 ((B).pl).p12, .int .i64 ((B).pl).p13, .slice (B).pa (B).ps.length (B).pk, .slice (B).aa (B).as.length (B).ak, .slice (B).ja (B).js.length (B).jk, .slice (B).ha (B).hn (B).hk, .slice (B).ba (B).bn (B).bk] 33 := Blk_setRow_ne (Bk.Blk.alloc kb) (by omega)
 replace ke : Bk.Blk ((w3.alloc (.cells #[.int .i64 0, .int .i64 0, .int .i64 0, .int .i64 0, .int .i64 0, .int .i64 0, .string { data := #[] }, .string { data := #[] }, .slice none 0 0, .int .u64 0] 39)).setRow w3.heap.size #[.int .i64 (zz).id, .int .i64 (zz).bo, .int .i64 (zz).va, .int .i64 (zz).ki, .int .i64 (zz).au, .int .i64 (zz).pe, .string (zz).ke, .string (zz).tx, .slice (zz).la (zz).lg.length (zz).lk, .int .u64 (zz).ch]) (w.heap.size + 1) #[.int .i64 (e0).id, .int .i64 (e0).bo, .int .i64 (e0).va, .int .i64 (e0).ki, .int .i64 (e0).au, .int .i64 (e0).pe, .string (e0).ke, .string (e0).tx, .slice (e0).la (e0).lg.length (e0).lk, .int .u64 (e0).ch] 39 := Blk_setRow_ne (Bk.Blk.alloc ke) (by omega)
 replace kz : Bk.Blk ((w3.alloc (.cells #[.int .i64 0, .int .i64 0, .int .i64 0, .int .i64 0, .int .i64 0, .int .i64 0, .string { data := #[] }, .string { data := #[] }, .slice none 0 0, .int .u64 0] 39)).setRow w3.heap.size #[.int .i64 (zz).id, .int .i64 (zz).bo, .int .i64 (zz).va, .int .i64 (zz).ki, .int .i64 (zz).au, .int .i64 (zz).pe, .string (zz).ke, .string (zz).tx, .slice (zz).la (zz).lg.length (zz).lk, .int .u64 (zz).ch]) (w.heap.size + 2) #[.slice none 0 0, .slice none 0 0, .slice none 0 0, .int .i64 0, .int .i64 0, .int .i64 0, .int .i64 0, .int .i64 0, .int .i64 0, .int .i64 0, .int .i64 0, .int .i64 0, .int .i64 0, .int .i64 0, .int .i64 0, .int .i64 0, .int .i64 0, .slice none 0 0, .slice none 0 0, .slice none 0 0, .slice none 0 0, .slice none 0 0] 33 := Blk_setRow_ne (Bk.Blk.alloc kz) (by omega)
 replace kc : Bk.Blk ((w3.alloc (.cells #[.int .i64 0, .int .i64 0, .int .i64 0, .int .i64 0, .int .i64 0, .int .i64 0, .string { data := #[] }, .string { data := #[] }, .slice none 0 0, .int .u64 0] 39)).setRow w3.heap.size #[.int .i64 (zz).id, .int .i64 (zz).bo, .int .i64 (zz).va, .int .i64 (zz).ki, .int .i64 (zz).au, .int .i64 (zz).pe, .string (zz).ke, .string (zz).tx, .slice (zz).la (zz).lg.length (zz).lk, .int .u64 (zz).ch]) (w.heap.size + 3) #[.int .i64 0] 43 := Blk_setRow_ne (Bk.Blk.alloc kc) (by omega)
 (try simp only [Act.put])
 generalize ((w3.alloc (.cells _ 39)).setRow w3.heap.size _) = w4 at *
 generalize w3.heap.size = g3 at *
 clear c3 z3 hk3
 go_wp2_with (first | (refine wpList_load_row rfl 33 _ rfl _ rfl _ _ _ _ (kb) Tryz.underlying33 rfl (by kernel_rfl) ?_) | (refine wpList_load_row rfl 39 _ rfl _ rfl _ _ _ _ (ke) Tryz.underlying39 rfl (by kernel_rfl) ?_))
 refine (legs_any B e0 w4 (HR.out _ c4) (HL.out _ c4) (by have := HG.out.ln; omega)).mono ?_
 rintro e w5 ⟨rfl, hb⟩
 rw [HE.out]
 have c5 := bl2 hb c4
 replace kb := kb.later hb
 replace ke := ke.later hb
 replace kz := kz.later hb
 replace kc := kc.later hb
 clear hb c4
 have kcc := kc.c0
 have kcf := kc.f0
 go_upto_region 8 with fail
 have d5 : Below w.heap.size w (w5.setCell ⟨w.heap.size + 3, 0, none⟩ (.int .i64 0)) := Below.setCell c5 (show w.heap.size ≤ w.heap.size + 3 by omega) _
 replace kb : Bk.Blk (w5.setCell ⟨w.heap.size + 3, 0, none⟩ (.int .i64 0)) w.heap.size #[.slice (B).ua (B).us.length (B).uk, .slice (B).ka (B).kn (B).kk, .slice (B).ga (B).gs.length (B).gk, .int .i64 ((B).pl).p0, .int .i64 ((B).pl).p1, .int .i64 ((B).pl).p2, .int .i64 ((B).pl).p3, .int .i64 ((B).pl).p4, .int .i64 ((B).pl).p5, .int .i64 ((B).pl).p6, .int .i64 ((B).pl).p7, .int .i64 ((B).pl).p8, .int .i64 ((B).pl).p9, .int .i64 ((B).pl).p10, .int .i64 ((B).pl).p11, .int .i64 ((B).pl).p12, .int .i64 ((B).pl).p13, .slice (B).pa (B).ps.length (B).pk, .slice (B).aa (B).as.length (B).ak, .slice (B).ja (B).js.length (B).jk, .slice (B).ha (B).hn (B).hk, .slice (B).ba (B).bn (B).bk] 33 := Bk.Blk.set_ne kb (by omega)
 replace ke : Bk.Blk (w5.setCell ⟨w.heap.size + 3, 0, none⟩ (.int .i64 0)) (w.heap.size + 1) #[.int .i64 (e0).id, .int .i64 (e0).bo, .int .i64 (e0).va, .int .i64 (e0).ki, .int .i64 (e0).au, .int .i64 (e0).pe, .string (e0).ke, .string (e0).tx, .slice (e0).la (e0).lg.length (e0).lk, .int .u64 (e0).ch] 39 := Bk.Blk.set_ne ke (by omega)
 replace kz : Bk.Blk (w5.setCell ⟨w.heap.size + 3, 0, none⟩ (.int .i64 0)) (w.heap.size + 2) #[.slice none 0 0, .slice none 0 0, .slice none 0 0, .int .i64 0, .int .i64 0, .int .i64 0, .int .i64 0, .int .i64 0, .int .i64 0, .int .i64 0, .int .i64 0, .int .i64 0, .int .i64 0, .int .i64 0, .int .i64 0, .int .i64 0, .int .i64 0, .slice none 0 0, .slice none 0 0, .slice none 0 0, .slice none 0 0, .slice none 0 0] 33 := Bk.Blk.set_ne kz (by omega)
 replace kc : Bk.Blk (w5.setCell ⟨w.heap.size + 3, 0, none⟩ (.int .i64 0)) (w.heap.size + 3) #[.int .i64 0] 43 := Bk.Blk.set_same kc
 clear kcc kcf
 generalize w5.setCell ⟨w.heap.size + 3, 0, none⟩ (.int .i64 0) = v5 at *
 have kcc := kc.c0
 go_wp2_with (first | (refine wpList_load_row rfl 33 _ rfl _ rfl _ _ _ _ (kb) Tryz.underlying33 rfl (by kernel_rfl) ?_) | (refine wpList_load_row rfl 39 _ rfl _ rfl _ _ _ _ (ke) Tryz.underlying39 rfl (by kernel_rfl) ?_))
 refine (allowed_ok B e0 v5 (HR.out _ d5) (HL.out _ d5) HA.out).mono ?_
 rintro e w6 ⟨rfl, hb⟩
 have c6 := bl2 hb d5
 replace kb := kb.later hb
 replace ke := ke.later hb
 replace kz := kz.later hb
 replace kc := kc.later hb
 clear hb d5 c5 kcc
 have kcc := kc.c0
 have kcf := kc.f0
 go_upto_region 10 with fail
 have d6 : Below w.heap.size w (w6.setCell ⟨w.heap.size + 3, 0, none⟩ (.int .i64 0)) := Below.setCell c6 (show w.heap.size ≤ w.heap.size + 3 by omega) _
 replace kb : Bk.Blk (w6.setCell ⟨w.heap.size + 3, 0, none⟩ (.int .i64 0)) w.heap.size #[.slice (B).ua (B).us.length (B).uk, .slice (B).ka (B).kn (B).kk, .slice (B).ga (B).gs.length (B).gk, .int .i64 ((B).pl).p0, .int .i64 ((B).pl).p1, .int .i64 ((B).pl).p2, .int .i64 ((B).pl).p3, .int .i64 ((B).pl).p4, .int .i64 ((B).pl).p5, .int .i64 ((B).pl).p6, .int .i64 ((B).pl).p7, .int .i64 ((B).pl).p8, .int .i64 ((B).pl).p9, .int .i64 ((B).pl).p10, .int .i64 ((B).pl).p11, .int .i64 ((B).pl).p12, .int .i64 ((B).pl).p13, .slice (B).pa (B).ps.length (B).pk, .slice (B).aa (B).as.length (B).ak, .slice (B).ja (B).js.length (B).jk, .slice (B).ha (B).hn (B).hk, .slice (B).ba (B).bn (B).bk] 33 := Bk.Blk.set_ne kb (by omega)
 replace ke : Bk.Blk (w6.setCell ⟨w.heap.size + 3, 0, none⟩ (.int .i64 0)) (w.heap.size + 1) #[.int .i64 (e0).id, .int .i64 (e0).bo, .int .i64 (e0).va, .int .i64 (e0).ki, .int .i64 (e0).au, .int .i64 (e0).pe, .string (e0).ke, .string (e0).tx, .slice (e0).la (e0).lg.length (e0).lk, .int .u64 (e0).ch] 39 := Bk.Blk.set_ne ke (by omega)
 replace kz : Bk.Blk (w6.setCell ⟨w.heap.size + 3, 0, none⟩ (.int .i64 0)) (w.heap.size + 2) #[.slice none 0 0, .slice none 0 0, .slice none 0 0, .int .i64 0, .int .i64 0, .int .i64 0, .int .i64 0, .int .i64 0, .int .i64 0, .int .i64 0, .int .i64 0, .int .i64 0, .int .i64 0, .int .i64 0, .int .i64 0, .int .i64 0, .int .i64 0, .slice none 0 0, .slice none 0 0, .slice none 0 0, .slice none 0 0, .slice none 0 0] 33 := Bk.Blk.set_ne kz (by omega)
 replace kc : Bk.Blk (w6.setCell ⟨w.heap.size + 3, 0, none⟩ (.int .i64 0)) (w.heap.size + 3) #[.int .i64 0] 43 := Bk.Blk.set_same kc
 clear kcc kcf
 generalize w6.setCell ⟨w.heap.size + 3, 0, none⟩ (.int .i64 0) = v6 at *
 have kcc := kc.c0
 go_upto_region 12 with (first | (refine wpList_load_row rfl 33 _ rfl _ rfl _ _ _ _ (kb) Tryz.underlying33 rfl (by kernel_rfl) ?_) | (refine wpList_store_row rfl 33 _ _ rfl _ _ rfl rfl _ _ (kz) (by kernel_rfl) rfl (by simp [Value.oneCell']) ?_))
 have c9 : Below w.heap.size w (v6.setRow (w.heap.size + 2) #[.slice (B).ua (B).us.length (B).uk, .slice (B).ka (B).kn (B).kk, .slice (B).ga (B).gs.length (B).gk, .int .i64 ((B).pl).p0, .int .i64 ((B).pl).p1, .int .i64 ((B).pl).p2, .int .i64 ((B).pl).p3, .int .i64 ((B).pl).p4, .int .i64 ((B).pl).p5, .int .i64 ((B).pl).p6, .int .i64 ((B).pl).p7, .int .i64 ((B).pl).p8, .int .i64 ((B).pl).p9, .int .i64 ((B).pl).p10, .int .i64 ((B).pl).p11, .int .i64 ((B).pl).p12, .int .i64 ((B).pl).p13, .slice (B).pa (B).ps.length (B).pk, .slice (B).aa (B).as.length (B).ak, .slice (B).ja (B).js.length (B).jk, .slice (B).ha (B).hn (B).hk, .slice (B).ba (B).bn (B).bk]) := Below_setRow d6 (show w.heap.size ≤ w.heap.size + 2 by omega) _
 replace kb : Bk.Blk (v6.setRow (w.heap.size + 2) #[.slice (B).ua (B).us.length (B).uk, .slice (B).ka (B).kn (B).kk, .slice (B).ga (B).gs.length (B).gk, .int .i64 ((B).pl).p0, .int .i64 ((B).pl).p1, .int .i64 ((B).pl).p2, .int .i64 ((B).pl).p3, .int .i64 ((B).pl).p4, .int .i64 ((B).pl).p5, .int .i64 ((B).pl).p6, .int .i64 ((B).pl).p7, .int .i64 ((B).pl).p8, .int .i64 ((B).pl).p9, .int .i64 ((B).pl).p10, .int .i64 ((B).pl).p11, .int .i64 ((B).pl).p12, .int .i64 ((B).pl).p13, .slice (B).pa (B).ps.length (B).pk, .slice (B).aa (B).as.length (B).ak, .slice (B).ja (B).js.length (B).jk, .slice (B).ha (B).hn (B).hk, .slice (B).ba (B).bn (B).bk]) w.heap.size #[.slice (B).ua (B).us.length (B).uk, .slice (B).ka (B).kn (B).kk, .slice (B).ga (B).gs.length (B).gk, .int .i64 ((B).pl).p0, .int .i64 ((B).pl).p1, .int .i64 ((B).pl).p2, .int .i64 ((B).pl).p3, .int .i64 ((B).pl).p4, .int .i64 ((B).pl).p5, .int .i64 ((B).pl).p6, .int .i64 ((B).pl).p7, .int .i64 ((B).pl).p8, .int .i64 ((B).pl).p9, .int .i64 ((B).pl).p10, .int .i64 ((B).pl).p11, .int .i64 ((B).pl).p12, .int .i64 ((B).pl).p13, .slice (B).pa (B).ps.length (B).pk, .slice (B).aa (B).as.length (B).ak, .slice (B).ja (B).js.length (B).jk, .slice (B).ha (B).hn (B).hk, .slice (B).ba (B).bn (B).bk] 33 := Blk_setRow_ne kb (by omega)
 replace ke : Bk.Blk (v6.setRow (w.heap.size + 2) #[.slice (B).ua (B).us.length (B).uk, .slice (B).ka (B).kn (B).kk, .slice (B).ga (B).gs.length (B).gk, .int .i64 ((B).pl).p0, .int .i64 ((B).pl).p1, .int .i64 ((B).pl).p2, .int .i64 ((B).pl).p3, .int .i64 ((B).pl).p4, .int .i64 ((B).pl).p5, .int .i64 ((B).pl).p6, .int .i64 ((B).pl).p7, .int .i64 ((B).pl).p8, .int .i64 ((B).pl).p9, .int .i64 ((B).pl).p10, .int .i64 ((B).pl).p11, .int .i64 ((B).pl).p12, .int .i64 ((B).pl).p13, .slice (B).pa (B).ps.length (B).pk, .slice (B).aa (B).as.length (B).ak, .slice (B).ja (B).js.length (B).jk, .slice (B).ha (B).hn (B).hk, .slice (B).ba (B).bn (B).bk]) (w.heap.size + 1) #[.int .i64 (e0).id, .int .i64 (e0).bo, .int .i64 (e0).va, .int .i64 (e0).ki, .int .i64 (e0).au, .int .i64 (e0).pe, .string (e0).ke, .string (e0).tx, .slice (e0).la (e0).lg.length (e0).lk, .int .u64 (e0).ch] 39 := Blk_setRow_ne ke (by omega)
 replace kz : Bk.Blk (v6.setRow (w.heap.size + 2) #[.slice (B).ua (B).us.length (B).uk, .slice (B).ka (B).kn (B).kk, .slice (B).ga (B).gs.length (B).gk, .int .i64 ((B).pl).p0, .int .i64 ((B).pl).p1, .int .i64 ((B).pl).p2, .int .i64 ((B).pl).p3, .int .i64 ((B).pl).p4, .int .i64 ((B).pl).p5, .int .i64 ((B).pl).p6, .int .i64 ((B).pl).p7, .int .i64 ((B).pl).p8, .int .i64 ((B).pl).p9, .int .i64 ((B).pl).p10, .int .i64 ((B).pl).p11, .int .i64 ((B).pl).p12, .int .i64 ((B).pl).p13, .slice (B).pa (B).ps.length (B).pk, .slice (B).aa (B).as.length (B).ak, .slice (B).ja (B).js.length (B).jk, .slice (B).ha (B).hn (B).hk, .slice (B).ba (B).bn (B).bk]) (w.heap.size + 2) #[.slice (B).ua (B).us.length (B).uk, .slice (B).ka (B).kn (B).kk, .slice (B).ga (B).gs.length (B).gk, .int .i64 ((B).pl).p0, .int .i64 ((B).pl).p1, .int .i64 ((B).pl).p2, .int .i64 ((B).pl).p3, .int .i64 ((B).pl).p4, .int .i64 ((B).pl).p5, .int .i64 ((B).pl).p6, .int .i64 ((B).pl).p7, .int .i64 ((B).pl).p8, .int .i64 ((B).pl).p9, .int .i64 ((B).pl).p10, .int .i64 ((B).pl).p11, .int .i64 ((B).pl).p12, .int .i64 ((B).pl).p13, .slice (B).pa (B).ps.length (B).pk, .slice (B).aa (B).as.length (B).ak, .slice (B).ja (B).js.length (B).jk, .slice (B).ha (B).hn (B).hk, .slice (B).ba (B).bn (B).bk] 33 := Blk_setRow_same kz
 replace kc : Bk.Blk (v6.setRow (w.heap.size + 2) #[.slice (B).ua (B).us.length (B).uk, .slice (B).ka (B).kn (B).kk, .slice (B).ga (B).gs.length (B).gk, .int .i64 ((B).pl).p0, .int .i64 ((B).pl).p1, .int .i64 ((B).pl).p2, .int .i64 ((B).pl).p3, .int .i64 ((B).pl).p4, .int .i64 ((B).pl).p5, .int .i64 ((B).pl).p6, .int .i64 ((B).pl).p7, .int .i64 ((B).pl).p8, .int .i64 ((B).pl).p9, .int .i64 ((B).pl).p10, .int .i64 ((B).pl).p11, .int .i64 ((B).pl).p12, .int .i64 ((B).pl).p13, .slice (B).pa (B).ps.length (B).pk, .slice (B).aa (B).as.length (B).ak, .slice (B).ja (B).js.length (B).jk, .slice (B).ha (B).hn (B).hk, .slice (B).ba (B).bn (B).bk]) (w.heap.size + 3) #[.int .i64 0] 43 := Blk_setRow_ne kc (by omega)
 clear kcc
 generalize (v6.setRow (w.heap.size + 2) #[.slice (B).ua (B).us.length (B).uk, .slice (B).ka (B).kn (B).kk, .slice (B).ga (B).gs.length (B).gk, .int .i64 ((B).pl).p0, .int .i64 ((B).pl).p1, .int .i64 ((B).pl).p2, .int .i64 ((B).pl).p3, .int .i64 ((B).pl).p4, .int .i64 ((B).pl).p5, .int .i64 ((B).pl).p6, .int .i64 ((B).pl).p7, .int .i64 ((B).pl).p8, .int .i64 ((B).pl).p9, .int .i64 ((B).pl).p10, .int .i64 ((B).pl).p11, .int .i64 ((B).pl).p12, .int .i64 ((B).pl).p13, .slice (B).pa (B).ps.length (B).pk, .slice (B).aa (B).as.length (B).ak, .slice (B).ja (B).js.length (B).jk, .slice (B).ha (B).hn (B).hk, .slice (B).ba (B).bn (B).bk]) = w9 at *
 clear d6 c6
 (try simp only [Act.put])
 have b19 := kb.c19
 rw [HJ.out.1, HJ.out.2.1, HJ.out.2.2] at b19
 go_wp2_with ((refine wpList_load_row rfl 39 _ rfl _ rfl _ _ _ _ (ke) Tryz.underlying39 rfl (by kernel_rfl) ?_))
 refine (jpost0_any e0 c w9 HG.out HS.out (HL.out _ c9) (HT.out _ c9)).mono ?_
 rintro e w10 ⟨g, la, lk, r, rfl, hrow, ⟨hrowl, hnew⟩, hge, hb⟩
 have c10 := bl2 hb c9
 have hlt9 := kc.lt
 replace kb := kb.later hb
 replace ke := ke.later hb
 replace kz := kz.later hb
 replace kc := kc.later hb
 have HROW := Lib.hid (And.intro hrow hrowl)
 have HNW := Lib.hid (fun (ad : Addr) (had : la = some ad) => show w.heap.size + 3 < ad.block by have := hnew ad had; omega)
 clear hb c9 b19 hrow hrowl hnew
 have kzc := kz.c19
 have kzf : w10.frozen? ⟨w.heap.size + 2, 19, none⟩ = false := Bk.Blk.free kz 19
 have kcc := kc.c0
 have kcf := kc.f0
 have hne : w.heap.size + 2 ≠ w.heap.size + 1 + 1 + 1 := by omega
 have kz' : Bk.Blk ((w10.setCell ⟨w.heap.size + 1 + 1, 19, none⟩ (.slice (some ⟨g, 0, none⟩) 1 1)).setCell ⟨w.heap.size + 1 + 1 + 1, 0, none⟩ (.int .i64 0)) (w.heap.size + 1 + 1) #[.slice ((B.post g (e0.sld 1 la lk r))).ua ((B.post g (e0.sld 1 la lk r))).us.length ((B.post g (e0.sld 1 la lk r))).uk, .slice ((B.post g (e0.sld 1 la lk r))).ka ((B.post g (e0.sld 1 la lk r))).kn ((B.post g (e0.sld 1 la lk r))).kk, .slice ((B.post g (e0.sld 1 la lk r))).ga ((B.post g (e0.sld 1 la lk r))).gs.length ((B.post g (e0.sld 1 la lk r))).gk, .int .i64 (((B.post g (e0.sld 1 la lk r))).pl).p0, .int .i64 (((B.post g (e0.sld 1 la lk r))).pl).p1, .int .i64 (((B.post g (e0.sld 1 la lk r))).pl).p2, .int .i64 (((B.post g (e0.sld 1 la lk r))).pl).p3, .int .i64 (((B.post g (e0.sld 1 la lk r))).pl).p4, .int .i64 (((B.post g (e0.sld 1 la lk r))).pl).p5, .int .i64 (((B.post g (e0.sld 1 la lk r))).pl).p6, .int .i64 (((B.post g (e0.sld 1 la lk r))).pl).p7, .int .i64 (((B.post g (e0.sld 1 la lk r))).pl).p8, .int .i64 (((B.post g (e0.sld 1 la lk r))).pl).p9, .int .i64 (((B.post g (e0.sld 1 la lk r))).pl).p10, .int .i64 (((B.post g (e0.sld 1 la lk r))).pl).p11, .int .i64 (((B.post g (e0.sld 1 la lk r))).pl).p12, .int .i64 (((B.post g (e0.sld 1 la lk r))).pl).p13, .slice ((B.post g (e0.sld 1 la lk r))).pa ((B.post g (e0.sld 1 la lk r))).ps.length ((B.post g (e0.sld 1 la lk r))).pk, .slice ((B.post g (e0.sld 1 la lk r))).aa ((B.post g (e0.sld 1 la lk r))).as.length ((B.post g (e0.sld 1 la lk r))).ak, .slice ((B.post g (e0.sld 1 la lk r))).ja ((B.post g (e0.sld 1 la lk r))).js.length ((B.post g (e0.sld 1 la lk r))).jk, .slice ((B.post g (e0.sld 1 la lk r))).ha ((B.post g (e0.sld 1 la lk r))).hn ((B.post g (e0.sld 1 la lk r))).hk, .slice ((B.post g (e0.sld 1 la lk r))).ba ((B.post g (e0.sld 1 la lk r))).bn ((B.post g (e0.sld 1 la lk r))).bk] 33 := Bk.Blk.set_ne (Bk.Blk.set_same kz) hne
 have kb' : Bk.Blk ((w10.setCell ⟨w.heap.size + 1 + 1, 19, none⟩ (.slice (some ⟨g, 0, none⟩) 1 1)).setCell ⟨w.heap.size + 1 + 1 + 1, 0, none⟩ (.int .i64 0)) w.heap.size #[.slice (B).ua (B).us.length (B).uk, .slice (B).ka (B).kn (B).kk, .slice (B).ga (B).gs.length (B).gk, .int .i64 ((B).pl).p0, .int .i64 ((B).pl).p1, .int .i64 ((B).pl).p2, .int .i64 ((B).pl).p3, .int .i64 ((B).pl).p4, .int .i64 ((B).pl).p5, .int .i64 ((B).pl).p6, .int .i64 ((B).pl).p7, .int .i64 ((B).pl).p8, .int .i64 ((B).pl).p9, .int .i64 ((B).pl).p10, .int .i64 ((B).pl).p11, .int .i64 ((B).pl).p12, .int .i64 ((B).pl).p13, .slice (B).pa (B).ps.length (B).pk, .slice (B).aa (B).as.length (B).ak, .slice (B).ja (B).js.length (B).jk, .slice (B).ha (B).hn (B).hk, .slice (B).ba (B).bn (B).bk] 33 := Bk.Blk.set_ne (Bk.Blk.set_ne kb (by omega)) (by omega)
 have kc' : Bk.Blk ((w10.setCell ⟨w.heap.size + 1 + 1, 19, none⟩ (.slice (some ⟨g, 0, none⟩) 1 1)).setCell ⟨w.heap.size + 1 + 1 + 1, 0, none⟩ (.int .i64 0)) (w.heap.size + 1 + 1 + 1) #[.int .i64 0] 43 := Bk.Blk.set_same (Bk.Blk.set_ne kc (by omega))
 have c11 : Below w.heap.size w ((w10.setCell ⟨w.heap.size + 1 + 1, 19, none⟩ (.slice (some ⟨g, 0, none⟩) 1 1)).setCell ⟨w.heap.size + 1 + 1 + 1, 0, none⟩ (.int .i64 0)) := Below.setCell (Below.setCell c10 (show w.heap.size ≤ w.heap.size + 1 + 1 by omega) _) (show w.heap.size ≤ w.heap.size + 1 + 1 + 1 by omega) _
 have hrow' : RowIn enenc ((w10.setCell ⟨w.heap.size + 1 + 1, 19, none⟩ (.slice (some ⟨g, 0, none⟩) 1 1)).setCell ⟨w.heap.size + 1 + 1 + 1, 0, none⟩ (.int .i64 0)) (some ⟨g, 0, none⟩) [e0.sld 1 la lk r] := Ln.row_put (Ln.row_put HROW.out.1 (fun ad had => by cases had; show g ≠ w.heap.size + 1 + 1; omega)) (fun ad had => by cases had; show g ≠ w.heap.size + 1 + 1 + 1; omega)
 have HRL := Lib.hid (show RowIn lgenc ((w10.setCell ⟨w.heap.size + 1 + 1, 19, none⟩ (.slice (some ⟨g, 0, none⟩) 1 1)).setCell ⟨w.heap.size + 1 + 1 + 1, 0, none⟩ (.int .i64 0)) la e0.lg from by
  refine Ln.row_put (Ln.row_put HROW.out.2 (fun ad had => ?_)) (fun ad had => ?_)
  ·have := HNW.out ad had; show ad.block ≠ w.heap.size + 1 + 1; omega
  ·have := HNW.out ad had; show ad.block ≠ w.heap.size + 1 + 1 + 1; omega)
 go_wp2_with fail
 refine leaves_cons (f := 22) (args := #[.pointer (some ⟨w.heap.size + 1 + 1 + 1, 0, none⟩), .pointer (some ⟨w.heap.size + 1 + 1, 0, none⟩), .pointer (some ⟨w.heap.size, 0, none⟩)]) (by simp) (by simp [go_sem]) ?_
 refine (post1_ok (w.heap.size + 1 + 1 + 1) (w.heap.size + 1 + 1) w.heap.size (some ⟨g, 0, none⟩) none 0 1 0 .returning _ (by omega) kc'.c0 kz'.c19 (by have := kb'.c19; rw [HJ.out.1, HJ.out.2.1, HJ.out.2.2] at this; exact this)).mono ?_
 rintro e u' w'' ⟨rfl, rfl, rfl⟩
 have hv : (loadVar 43 ⟨w.heap.size + 1 + 1 + 1, 0, none⟩).run Tryz.prog ((w10.setCell ⟨w.heap.size + 1 + 1, 19, none⟩ (.slice (some ⟨g, 0, none⟩) 1 1)).setCell ⟨w.heap.size + 1 + 1 + 1, 0, none⟩ (.int .i64 0)) = .ok (.int .i64 0) ((w10.setCell ⟨w.heap.size + 1 + 1, 19, none⟩ (.slice (some ⟨g, 0, none⟩) 1 1)).setCell ⟨w.heap.size + 1 + 1 + 1, 0, none⟩ (.int .i64 0)) := by
  have kq := kc'.c0
  go_simp
 exact ⟨_, results_cells Tryz.results10 _ _ _ _ _ _ _ _ _ rfl rfl kz' Tryz.underlying33 rfl (by kernel_rfl) hv, g, la, lk, r, rfl, hrow', HRL.out, c11⟩
end Go.Proofs.YtjhpiclnpmdjnaaGreatDoor.Bm
