/-
  Whole blocks stored; the reference's Apply.
-/
import Derived.Test.YtaibocobeibobaaLr6
import Derived.Deep.Cut
namespace Go.Proofs.Ytaibocobeibobaa.Ln
open Go.RowKit
open Go.Proofs.Ytaibocobeibobaa

theorem Blk_setRow_same {W : World} {g : Nat} {old cs : Array Value} {t : TypeId} (h : Bk.Blk W g old t) : Bk.Blk (W.setRow g cs) g cs t := setRow_heap W g old cs t (0, 0) h
theorem Blk_setRow_ne {W : World} {g g' : Nat} {cs cs' : Array Value} {t : TypeId} (h : Bk.Blk W g cs t) (hne : g ≠ g') : Bk.Blk (W.setRow g' cs') g cs t := (setRow_other W g' g cs' hne).trans h
theorem Below_setRow {B g : Nat} {w0 w : World} (hb : Below B w0 w) (h : B ≤ g) (cs : Array Value) : Below B w0 (w.setRow g cs) :=
  ⟨hb.os, hb.tape, hb.output, by rw [size_setRow]; exact hb.size, fun k hk => (setRow_other w g k cs (by omega)).trans (hb.block k hk)⟩
/-- Three results, of which the first lies in a block known whole. -/
theorem results3_cell {P : Program} {fn : Func} {p u v : Tmp} {ty : TypeId} (h : fn.results = #[.cell p ty, .tmp u, .tmp v]) (tmps : Array Value) (w : World) (g : Nat) (t : TypeId) (cs : Array Value) (fr : Nat × Nat) (d : TypeDesc)
    (hp : tmps.getD p undef = .pointer (some ⟨g, 0, none⟩)) (hg : w.heap[g]? = some (.cells cs t fr))
    (hu : P.underlying ty = some d) (hd : (match d with | .struct _ | .array _ _ => true | _ => false) = true) (hi : (P.info? ty).map (·.size) = some cs.size) :
    (results fn tmps).run P w = .ok (.tuple #[.agg cs, tmps.getD u undef, tmps.getD v undef]) w := by
  have hp' : tmps[p]?.getD undef = .pointer (some ⟨g, 0, none⟩) := by simpa using hp
  simp [results, h, hp', asAddr, run_loadVar_row w g t ty cs fr d hg hu hd hi]
theorem one25 (a0 a1 a2 a3 a4 a5 a6 a7 a8 a9 a10 a11 a12 a13 a14 a15 a16 a17 a18 a19 a20 : Int) (s u : ByteArray) (x y : Option Addr) (n m p q : Nat) : (#[.int .i64 a0, .int .i64 a1, .int .i64 a2, .int .i64 a3, .int .i64 a4, .int .i64 a5, .int .i64 a6, .int .i64 a7, .int .i64 a8, .int .i64 a9, .int .i64 a10, .int .i64 a11, .int .i64 a12, .int .i64 a13, .int .i64 a14, .int .i64 a15, .int .i64 a16, .int .i64 a17, .int .i64 a18, .int .i64 a19, .int .i64 a20, .string s, .string u, .slice x n p, .slice y m q] : Array Value).all (·.oneCell') = true := by
  simp [Value.oneCell']
/-- The loan behind a part. -/
def Lo.app (l : Lo) (p : Pa) : Lo := if p.kd = 1 then { l with fee := l.fee - p.am } else if p.kd = 2 then { l with pen := l.pen - p.am } else if p.kd = 3 then { l with pi := l.pi + p.am } else { l with pp := l.pp + p.am }

set_option maxHeartbeats 8000000 in
theorem rapply_any (l : Lo) (da ca : Option Addr) (dk ck : Nat) (p : Pa) (w : World) (hk1 : p.kd = 1 ∨ p.kd = 2 ∨ p.kd = 3 ∨ p.kd = 4)
    (hb : -4000000000000000000 ≤ l.fee ∧ l.fee ≤ 4000000000000000000 ∧ -4000000000000000000 ≤ l.pen ∧ l.pen ≤ 4000000000000000000 ∧ -4000000000000000000 ≤ l.pi ∧ l.pi ≤ 4000000000000000000 ∧ -4000000000000000000 ≤ l.pp ∧ l.pp ≤ 4000000000000000000 ∧ -4000000000000000000 ≤ p.am ∧ p.am ≤ 4000000000000000000) :
    Calls Try.prog 40 #[(.agg #[.int .i64 (l).id, .int .i64 (l).ac, .int .i64 (l).st, .int .i64 (l).pp, .int .i64 (l).pi, .int .i64 (l).fee, .int .i64 (l).pen, .int .i64 (l).chg, .int .i64 (l).prov, .int .i64 (l).loss, .int .i64 (l).rcv, .int .i64 ((l).tm).me, .int .i64 ((l).tm).pr, .int .i64 ((l).tm).ppm, .int .i64 ((l).tm).stt, .int .i64 ((l).tm).ev, .int .i64 ((l).tm).ct, .int .i64 ((l).tm).ba, .int .i64 ((l).tm).mo, .int .i64 ((l).tm).pen, .int .i64 ((l).tm).fe, .string ((l).tm).cal, .string ((l).tm).cur, .slice da (l).ds.length dk, .slice ca (l).cs.length ck]), .agg #[.int .i64 p.kd, .int .i64 p.am]] w fun e w' => e = .returned (.agg #[.int .i64 ((l.app p)).id, .int .i64 ((l.app p)).ac, .int .i64 ((l.app p)).st, .int .i64 ((l.app p)).pp, .int .i64 ((l.app p)).pi, .int .i64 ((l.app p)).fee, .int .i64 ((l.app p)).pen, .int .i64 ((l.app p)).chg, .int .i64 ((l.app p)).prov, .int .i64 ((l.app p)).loss, .int .i64 ((l.app p)).rcv, .int .i64 (((l.app p)).tm).me, .int .i64 (((l.app p)).tm).pr, .int .i64 (((l.app p)).tm).ppm, .int .i64 (((l.app p)).tm).stt, .int .i64 (((l.app p)).tm).ev, .int .i64 (((l.app p)).tm).ct, .int .i64 (((l.app p)).tm).ba, .int .i64 (((l.app p)).tm).mo, .int .i64 (((l.app p)).tm).pen, .int .i64 (((l.app p)).tm).fe, .string (((l.app p)).tm).cal, .string (((l.app p)).tm).cur, .slice da ((l.app p)).ds.length dk, .slice ca ((l.app p)).cs.length ck]) ∧ Below w.heap.size w w' := by
  obtain ⟨kd, am⟩ := p
  obtain ⟨b1, b2, b3, b4, b5, b6, b7, b8, b9, b10⟩ := hb
  simp only at hk1 b9 b10
  rcases hk1 with rfl | rfl | rfl | rfl

  · show Calls Try.prog 40 _ w fun e w' => e = .returned (.agg #[.int .i64 (({ l with fee := l.fee - am } : Lo)).id, .int .i64 (({ l with fee := l.fee - am } : Lo)).ac, .int .i64 (({ l with fee := l.fee - am } : Lo)).st, .int .i64 (({ l with fee := l.fee - am } : Lo)).pp, .int .i64 (({ l with fee := l.fee - am } : Lo)).pi, .int .i64 (({ l with fee := l.fee - am } : Lo)).fee, .int .i64 (({ l with fee := l.fee - am } : Lo)).pen, .int .i64 (({ l with fee := l.fee - am } : Lo)).chg, .int .i64 (({ l with fee := l.fee - am } : Lo)).prov, .int .i64 (({ l with fee := l.fee - am } : Lo)).loss, .int .i64 (({ l with fee := l.fee - am } : Lo)).rcv, .int .i64 ((({ l with fee := l.fee - am } : Lo)).tm).me, .int .i64 ((({ l with fee := l.fee - am } : Lo)).tm).pr, .int .i64 ((({ l with fee := l.fee - am } : Lo)).tm).ppm, .int .i64 ((({ l with fee := l.fee - am } : Lo)).tm).stt, .int .i64 ((({ l with fee := l.fee - am } : Lo)).tm).ev, .int .i64 ((({ l with fee := l.fee - am } : Lo)).tm).ct, .int .i64 ((({ l with fee := l.fee - am } : Lo)).tm).ba, .int .i64 ((({ l with fee := l.fee - am } : Lo)).tm).mo, .int .i64 ((({ l with fee := l.fee - am } : Lo)).tm).pen, .int .i64 ((({ l with fee := l.fee - am } : Lo)).tm).fe, .string ((({ l with fee := l.fee - am } : Lo)).tm).cal, .string ((({ l with fee := l.fee - am } : Lo)).tm).cur, .slice da (({ l with fee := l.fee - am } : Lo)).ds.length dk, .slice ca (({ l with fee := l.fee - am } : Lo)).cs.length ck]) ∧ Below w.heap.size w w'
    have hwr : wrap64 (l.fee - am) = l.fee - am := by unfold wrap64; omega
    go_enter Try.func40, Try.ntmps40
    go_upto_region 10 with fail
    try rw [hwr]
    go_wp2_with (first | (refine wpList_load_row rfl 27 _ rfl _ rfl _ _ _ _ Bk.Blk.nw30 Try.underlying27 rfl (by kernel_rfl) ?_) | (refine wpList_store_row rfl 27 _ _ rfl _ _ rfl rfl _ _ Bk.Blk.nw32 (by kernel_rfl) rfl (one25 ..) ?_))
    (try simp only [Exit.inBlock, Exit.then])
    refine bodyPost_ret (results_cell_row Try.results40 _ _ _ _ _ _ _ rfl (Blk_setRow_same Bk.Blk.nw32) Try.underlying27 rfl (by kernel_rfl)) rfl ?_
    exact ⟨rfl, Below_setRow ((((Below.refl _ _).alloc (Nat.le_refl _) _).alloc (by simp) _).alloc (by simp; omega) _) (by omega) _⟩

  · show Calls Try.prog 40 _ w fun e w' => e = .returned (.agg #[.int .i64 (({ l with pen := l.pen - am } : Lo)).id, .int .i64 (({ l with pen := l.pen - am } : Lo)).ac, .int .i64 (({ l with pen := l.pen - am } : Lo)).st, .int .i64 (({ l with pen := l.pen - am } : Lo)).pp, .int .i64 (({ l with pen := l.pen - am } : Lo)).pi, .int .i64 (({ l with pen := l.pen - am } : Lo)).fee, .int .i64 (({ l with pen := l.pen - am } : Lo)).pen, .int .i64 (({ l with pen := l.pen - am } : Lo)).chg, .int .i64 (({ l with pen := l.pen - am } : Lo)).prov, .int .i64 (({ l with pen := l.pen - am } : Lo)).loss, .int .i64 (({ l with pen := l.pen - am } : Lo)).rcv, .int .i64 ((({ l with pen := l.pen - am } : Lo)).tm).me, .int .i64 ((({ l with pen := l.pen - am } : Lo)).tm).pr, .int .i64 ((({ l with pen := l.pen - am } : Lo)).tm).ppm, .int .i64 ((({ l with pen := l.pen - am } : Lo)).tm).stt, .int .i64 ((({ l with pen := l.pen - am } : Lo)).tm).ev, .int .i64 ((({ l with pen := l.pen - am } : Lo)).tm).ct, .int .i64 ((({ l with pen := l.pen - am } : Lo)).tm).ba, .int .i64 ((({ l with pen := l.pen - am } : Lo)).tm).mo, .int .i64 ((({ l with pen := l.pen - am } : Lo)).tm).pen, .int .i64 ((({ l with pen := l.pen - am } : Lo)).tm).fe, .string ((({ l with pen := l.pen - am } : Lo)).tm).cal, .string ((({ l with pen := l.pen - am } : Lo)).tm).cur, .slice da (({ l with pen := l.pen - am } : Lo)).ds.length dk, .slice ca (({ l with pen := l.pen - am } : Lo)).cs.length ck]) ∧ Below w.heap.size w w'
    have hwr : wrap64 (l.pen - am) = l.pen - am := by unfold wrap64; omega
    go_enter Try.func40, Try.ntmps40
    go_upto_region 10 with fail
    try rw [hwr]
    go_wp2_with (first | (refine wpList_load_row rfl 27 _ rfl _ rfl _ _ _ _ Bk.Blk.nw30 Try.underlying27 rfl (by kernel_rfl) ?_) | (refine wpList_store_row rfl 27 _ _ rfl _ _ rfl rfl _ _ Bk.Blk.nw32 (by kernel_rfl) rfl (one25 ..) ?_))
    (try simp only [Exit.inBlock, Exit.then])
    refine bodyPost_ret (results_cell_row Try.results40 _ _ _ _ _ _ _ rfl (Blk_setRow_same Bk.Blk.nw32) Try.underlying27 rfl (by kernel_rfl)) rfl ?_
    exact ⟨rfl, Below_setRow ((((Below.refl _ _).alloc (Nat.le_refl _) _).alloc (by simp) _).alloc (by simp; omega) _) (by omega) _⟩

  · show Calls Try.prog 40 _ w fun e w' => e = .returned (.agg #[.int .i64 (({ l with pi := l.pi + am } : Lo)).id, .int .i64 (({ l with pi := l.pi + am } : Lo)).ac, .int .i64 (({ l with pi := l.pi + am } : Lo)).st, .int .i64 (({ l with pi := l.pi + am } : Lo)).pp, .int .i64 (({ l with pi := l.pi + am } : Lo)).pi, .int .i64 (({ l with pi := l.pi + am } : Lo)).fee, .int .i64 (({ l with pi := l.pi + am } : Lo)).pen, .int .i64 (({ l with pi := l.pi + am } : Lo)).chg, .int .i64 (({ l with pi := l.pi + am } : Lo)).prov, .int .i64 (({ l with pi := l.pi + am } : Lo)).loss, .int .i64 (({ l with pi := l.pi + am } : Lo)).rcv, .int .i64 ((({ l with pi := l.pi + am } : Lo)).tm).me, .int .i64 ((({ l with pi := l.pi + am } : Lo)).tm).pr, .int .i64 ((({ l with pi := l.pi + am } : Lo)).tm).ppm, .int .i64 ((({ l with pi := l.pi + am } : Lo)).tm).stt, .int .i64 ((({ l with pi := l.pi + am } : Lo)).tm).ev, .int .i64 ((({ l with pi := l.pi + am } : Lo)).tm).ct, .int .i64 ((({ l with pi := l.pi + am } : Lo)).tm).ba, .int .i64 ((({ l with pi := l.pi + am } : Lo)).tm).mo, .int .i64 ((({ l with pi := l.pi + am } : Lo)).tm).pen, .int .i64 ((({ l with pi := l.pi + am } : Lo)).tm).fe, .string ((({ l with pi := l.pi + am } : Lo)).tm).cal, .string ((({ l with pi := l.pi + am } : Lo)).tm).cur, .slice da (({ l with pi := l.pi + am } : Lo)).ds.length dk, .slice ca (({ l with pi := l.pi + am } : Lo)).cs.length ck]) ∧ Below w.heap.size w w'
    have hwr : wrap64 (l.pi + am) = l.pi + am := by unfold wrap64; omega
    go_enter Try.func40, Try.ntmps40
    go_upto_region 10 with fail
    try rw [hwr]
    go_wp2_with (first | (refine wpList_load_row rfl 27 _ rfl _ rfl _ _ _ _ Bk.Blk.nw30 Try.underlying27 rfl (by kernel_rfl) ?_) | (refine wpList_store_row rfl 27 _ _ rfl _ _ rfl rfl _ _ Bk.Blk.nw32 (by kernel_rfl) rfl (one25 ..) ?_))
    (try simp only [Exit.inBlock, Exit.then])
    refine bodyPost_ret (results_cell_row Try.results40 _ _ _ _ _ _ _ rfl (Blk_setRow_same Bk.Blk.nw32) Try.underlying27 rfl (by kernel_rfl)) rfl ?_
    exact ⟨rfl, Below_setRow ((((Below.refl _ _).alloc (Nat.le_refl _) _).alloc (by simp) _).alloc (by simp; omega) _) (by omega) _⟩

  · show Calls Try.prog 40 _ w fun e w' => e = .returned (.agg #[.int .i64 (({ l with pp := l.pp + am } : Lo)).id, .int .i64 (({ l with pp := l.pp + am } : Lo)).ac, .int .i64 (({ l with pp := l.pp + am } : Lo)).st, .int .i64 (({ l with pp := l.pp + am } : Lo)).pp, .int .i64 (({ l with pp := l.pp + am } : Lo)).pi, .int .i64 (({ l with pp := l.pp + am } : Lo)).fee, .int .i64 (({ l with pp := l.pp + am } : Lo)).pen, .int .i64 (({ l with pp := l.pp + am } : Lo)).chg, .int .i64 (({ l with pp := l.pp + am } : Lo)).prov, .int .i64 (({ l with pp := l.pp + am } : Lo)).loss, .int .i64 (({ l with pp := l.pp + am } : Lo)).rcv, .int .i64 ((({ l with pp := l.pp + am } : Lo)).tm).me, .int .i64 ((({ l with pp := l.pp + am } : Lo)).tm).pr, .int .i64 ((({ l with pp := l.pp + am } : Lo)).tm).ppm, .int .i64 ((({ l with pp := l.pp + am } : Lo)).tm).stt, .int .i64 ((({ l with pp := l.pp + am } : Lo)).tm).ev, .int .i64 ((({ l with pp := l.pp + am } : Lo)).tm).ct, .int .i64 ((({ l with pp := l.pp + am } : Lo)).tm).ba, .int .i64 ((({ l with pp := l.pp + am } : Lo)).tm).mo, .int .i64 ((({ l with pp := l.pp + am } : Lo)).tm).pen, .int .i64 ((({ l with pp := l.pp + am } : Lo)).tm).fe, .string ((({ l with pp := l.pp + am } : Lo)).tm).cal, .string ((({ l with pp := l.pp + am } : Lo)).tm).cur, .slice da (({ l with pp := l.pp + am } : Lo)).ds.length dk, .slice ca (({ l with pp := l.pp + am } : Lo)).cs.length ck]) ∧ Below w.heap.size w w'
    have hwr : wrap64 (l.pp + am) = l.pp + am := by unfold wrap64; omega
    go_enter Try.func40, Try.ntmps40
    go_upto_region 10 with fail
    try rw [hwr]
    go_wp2_with (first | (refine wpList_load_row rfl 27 _ rfl _ rfl _ _ _ _ Bk.Blk.nw30 Try.underlying27 rfl (by kernel_rfl) ?_) | (refine wpList_store_row rfl 27 _ _ rfl _ _ rfl rfl _ _ Bk.Blk.nw32 (by kernel_rfl) rfl (one25 ..) ?_))
    (try simp only [Exit.inBlock, Exit.then])
    refine bodyPost_ret (results_cell_row Try.results40 _ _ _ _ _ _ _ rfl (Blk_setRow_same Bk.Blk.nw32) Try.underlying27 rfl (by kernel_rfl)) rfl ?_
    exact ⟨rfl, Below_setRow ((((Below.refl _ _).alloc (Nat.le_refl _) _).alloc (by simp) _).alloc (by simp; omega) _) (by omega) _⟩
end Go.Proofs.Ytaibocobeibobaa.Ln
