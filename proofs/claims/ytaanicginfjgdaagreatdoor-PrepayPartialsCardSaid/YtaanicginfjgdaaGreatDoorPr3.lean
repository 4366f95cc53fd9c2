/-
 The reference's Full.
-/
import Derived.Test.YtaanicginfjgdaaGreatDoorPp5
import Derived.Test.YtaanicginfjgdaaGreatDoorPr1
namespace Go.Proofs.YtaanicginfjgdaaGreatDoor.Pp
open Go Go.RowKit
open Go.Proofs.YtaanicginfjgdaaGreatDoor
open Go.Proofs.YtaanicginfjgdaaGreatDoor.Ln (Tm Ch Du Lo Pa sum prs its P I due chk Ok ok_iff wrap_in wrap_add powed zLo LoIn DuesIn RowIn OwnR denc denc_len cenc cenc_len penc penc_len tenc flat flat_len Dok dues_of_row bl2 SB SB.mono SQ SQ.mono take_at one_at two_at call_at call_wp call_one call_pv value_wp yields_load_row Blk_setRow_same Blk_setRow_ne Below_setRow dues_setRow row_row one25 load_guarded results2_cell dues_lt rowc_lt rangeAt_later tk ts z0 z1 z3 z4 z5)
open Go.Proofs.YtaanicginfjgdaaGreatDoor.Sr (GV DV gv_made parts_wp dues_wp blk_low gv_low)
open Go.Proofs.YtaanicginfjgdaaGreatDoor.Ln (row_put)
open Go.Proofs.YtaanicginfjgdaaGreatDoor.Rd (gd pcV pcE Stp)
open Go.Proofs.YtaanicginfjgdaaGreatDoor.Kl (Cl CalIn skE)
set_option linter.unusedSimpArgs false
set_option linter.unusedVariables false
set_option maxRecDepth 100000

def wd (l : Lo) (ds : List Du) : Lo := ⟨l.id, l.ac, l.st, l.pp, l.pi, l.fee, l.pen, l.chg, l.prov, l.loss, l.rcv, l.tm, ds, l.cs⟩
theorem putL_ppz (ps : List Pa) (k a : Int) : putL ps k a = ps ++ ppz [⟨k, a⟩] := by
 unfold putL ppz
 by_cases h : a = 0
 ·rw [if_pos h, List.filter_cons_of_neg (by simp [h])]
  rfl
 ·rw [if_neg h, List.filter_cons_of_pos (by simpa using h)]
  rfl
theorem putL_len (ps : List Pa) (k a : Int) : (putL ps k a).length ≤ ps.length + 1 := by
 unfold putL
 split
 ·simp
 ·simp
end Go.Proofs.YtaanicginfjgdaaGreatDoor.Pp
