/-
  The reference's Pay.
-/
import Derived.Test.YtfiplppdmedhkaaGreatDoorLr8
import Derived.Test.YtfiplppdmedhkaaGreatDoorLc
import Derived.Test.YtfiplppdmedhkaaGreatDoorLnp
import Derived.Test.YtfiplppdmedhkaaGreatDoorBa
namespace Go.Proofs.YtfiplppdmedhkaaGreatDoor.Ln
open Go.RowKit
open Go.Proofs.YtfiplppdmedhkaaGreatDoor
set_option maxRecDepth 100000

theorem drop_get {α : Type} [Inhabited α] {l : List α} {k : Nat} (h : k < l.length) : l.drop k = l[k]! :: l.drop (k + 1) := by
  rw [List.drop_eq_getElem_cons h, getElem!_pos l k h]
theorem powed_ok {l : Lo} (h : Ok l) (on : Int) : ∀ p ∈ powed l on, (p.kd = 1 ∨ p.kd = 2 ∨ p.kd = 3 ∨ p.kd = 4) ∧ 0 < p.am ∧ p.am ≤ 1000000000000000 := by
  intro p hp
  have s := h.sums on
  obtain ⟨f0, f1⟩ := amt_iff.1 h.fee
  obtain ⟨e0, e1⟩ := amt_iff.1 h.pen
  have hpp := h.pp; have hpi := h.pi
  have i1 := s.i1; have i2 := s.i2; have p1 := s.p1; have p2 := s.p2
  unfold powed pparts at hp
  rw [h.oI, h.oP] at hp
  simp only [List.mem_filter, List.mem_cons, List.not_mem_nil, or_false, decide_eq_true_eq] at hp
  obtain ⟨hm, h0⟩ := hp
  rcases hm with rfl | rfl | rfl | rfl
  · exact ⟨.inl rfl, h0, by show l.fee ≤ _; omega⟩
  · exact ⟨.inr (.inl rfl), h0, by show l.pen ≤ _; omega⟩
  · exact ⟨.inr (.inr (.inl rfl)), h0, by show I (due l.ds on) - l.pi ≤ _; omega⟩
  · exact ⟨.inr (.inr (.inr rfl)), h0, by show P (due l.ds on) - l.pp ≤ _; omega⟩
/-- The four amounts of a loan that payments change are in bounds. -/
def LBd (L : Lo) (c : Int) : Prop := -c ≤ L.fee ∧ L.fee ≤ c ∧ -c ≤ L.pen ∧ L.pen ≤ c ∧ -c ≤ L.pi ∧ L.pi ≤ c ∧ -c ≤ L.pp ∧ L.pp ≤ c
theorem LBd.app {L : Lo} {c : Int} {p : Pa} (h : LBd L c) (h0 : 0 ≤ p.am) : LBd (L.app p) (c + p.am) := by
  unfold LBd at *
  unfold Lo.app
  split
  · dsimp only; omega
  · split
    · dsimp only; omega
    · split
      · dsimp only; omega
      · dsimp only; omega
theorem payGo_cons (p : Pa) (ps : List Pa) (n : Int) (L : Lo) (out : List Pa) : payGo (p :: ps) n L out = if 0 < n then payGo ps (n - min n p.am) (L.app ⟨p.kd, min n p.am⟩) (out ++ [⟨p.kd, min n p.am⟩]) else (n, L, out) := rfl
theorem LBd.mono {L : Lo} {c d : Int} (h : LBd L c) (h0 : c ≤ d) : LBd L d := by unfold LBd at *; omega
theorem app_same (L : Lo) (p : Pa) : (L.app p).ds = L.ds ∧ (L.app p).cs = L.cs := by
  unfold Lo.app
  split
  · exact ⟨rfl, rfl⟩
  · split
    · exact ⟨rfl, rfl⟩
    · split <;> exact ⟨rfl, rfl⟩
theorem PV.blk {W W' : World} {B : Nat} {v : Value} {ps : List Pa} (h : PV W B v ps) (hb : ∀ g, v.ownBlock = some g → W'.heap[g]? = W.heap[g]?) : PV W' B v ps := by
  obtain ⟨⟨hl, hr⟩, hs⟩ := h
  refine ⟨⟨hl, ?_⟩, hs⟩
  rcases hr with ⟨h1, h2⟩ | ⟨g, cap, cur, h1, h2, h3, h4⟩
  · exact .inl ⟨h1, h2⟩
  · exact .inr ⟨g, cap, cur, h1, h2, (hb g (by rw [h1]; rfl)).trans h3, h4⟩
theorem PV.later {W W' : World} {B : Nat} {v : Value} {ps : List Pa} (h : PV W B v ps) (hb : Below W.heap.size W W') : PV W' B v ps := h.blk (fun g hg => hb.block g (h.1.lt g hg).2)

/-- Where the loop of Pay stands. -/
def RPL (w : World) (l : Lo) (da ca : Option Addr) (dk ck : Nat) (ow : List Pa) (a : Option Addr) (F : Int × Lo × List Pa) (g : Nat) (s1 s9 s11 : Value) (W : World) : Prop := ∃ (k : Nat) (n : Int) (L : Lo) (out : List Pa),
  k + g = ow.length ∧ s11 = .int .i64 k ∧ s1 = .int .i64 n ∧ PV W w.heap.size s9 out ∧ (s9.ownBlock ≠ some w.heap.size ∧ s9.ownBlock ≠ some (w.heap.size + 1) ∧ ∀ ad, a = some ad → s9.ownBlock ≠ some ad.block) ∧
  payGo (ow.drop k) n L out = F ∧ 0 ≤ n ∧ n ≤ 1000000000000 ∧ out.length ≤ k ∧ LBd L (1000000000000000 + k * 1000000000000) ∧ L.ds = l.ds ∧ L.cs = l.cs ∧
  Bk.Blk W w.heap.size #[.int .i64 (L).id, .int .i64 (L).ac, .int .i64 (L).st, .int .i64 (L).pp, .int .i64 (L).pi, .int .i64 (L).fee, .int .i64 (L).pen, .int .i64 (L).chg, .int .i64 (L).prov, .int .i64 (L).loss, .int .i64 (L).rcv, .int .i64 ((L).tm).me, .int .i64 ((L).tm).pr, .int .i64 ((L).tm).ppm, .int .i64 ((L).tm).stt, .int .i64 ((L).tm).ev, .int .i64 ((L).tm).ct, .int .i64 ((L).tm).ba, .int .i64 ((L).tm).mo, .int .i64 ((L).tm).pen, .int .i64 ((L).tm).fe, .string ((L).tm).cal, .string ((L).tm).cur, .slice da (L).ds.length dk, .slice ca (L).cs.length ck] 31 ∧ Bk.Blk W (w.heap.size + 1) #[.int .i64 0, .int .i64 0, .int .i64 0, .int .i64 0, .int .i64 0, .int .i64 0, .int .i64 0, .int .i64 0, .int .i64 0, .int .i64 0, .int .i64 0, .int .i64 0, .int .i64 0, .int .i64 0, .int .i64 0, .int .i64 0, .int .i64 0, .int .i64 0, .int .i64 0, .int .i64 0, .int .i64 0, .string .empty, .string .empty, .slice none 0 0, .slice none 0 0] 31 ∧ RowIn penc W a ow ∧ Below w.heap.size w W
end Go.Proofs.YtfiplppdmedhkaaGreatDoor.Ln
