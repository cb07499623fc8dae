/- ParseTurns, plainly: for any string, Turns returns the last letters of the sorted turns and the position of the word, and Runs the number of their runs, or ErrArg. -/
import Derived.Test.YtpeeflkodpnbpaaDoorPrB5
import Derived.Test.YtpeeflkodpnbpaaDoorHAw
import Derived.Test.YtpeeflkodpnbpaaDoorHPar
import Derived.Test.YtpeeflkodpnbpaaDoorHTurns
namespace Go.Proofs.YtpeeflkodpnbpaaDoor.Pure
open Go.RowKit Go.Proofs.YtpeeflkodpnbpaaDoor.Pr Go.Proofs.YtpeeflkodpnbpaaDoorW.PrintWords Go.Proofs.YtpeeflkodpnbpaaDoorW.PrintLast
set_option linter.unusedVariables false

theorem ParseTurns : numnahlaw09_ParseTurns.Pure := by
  intro a0 _
  apply Evt.ex
  have hsz := shortS_size a0
  have hw := word_ev (shortS a0) (by omega)
  show Evt (fun k => numnahlaw09_ParseTurns.f k a0) true
  simp only [numnahlaw09_ParseTurns.f, short_some, Option.bind_some, parse_Runs.f]
  cases hc : isWordC (shortS a0) with
  | false =>
    rw [hc] at hw
    have ht := turns_no _ hc
    have hr : Evt (fun k => parse_Runs.l0 k (⟨#[]⟩ : ByteArray) 2 0 (((⟨#[]⟩ : ByteArray).size : Nat) : Int) 0) (0, 2) := runs_ev (⟨#[]⟩ : ByteArray) (by decide) 2 0 0 0 rfl (by omega) (by omega)
    refine Evt.bind ht (Evt.bind (Evt.bind ht hr) (Evt.bind hw (Evt.neg (by decide) ?_)))
    exact Evt.pos (show (⟨#[]⟩ : ByteArray).toList = [] from ByteArray.toList_eq _) (Evt.pos rfl (Evt.pos rfl (Evt.pos rfl (Evt.pos rfl awake_bind))))
  | true =>
    rw [hc] at hw
    have hs : (shortS a0).size ≤ 160 := ((isWordC_iff _).1 hc).1
    have ht := turns_ev _ hc
    have hz := turnL_size (shortS a0)
    have hrt := refTurns_ev _ hs
    generalize turnL (shortS a0) = L at ht hz hrt
    generalize turnP (shortS a0) = P at ht hrt
    have hr := runs_ev L (by omega) 0 _ 0 0 (Nat.zero_add _) (by omega) (by omega)
    have hr2 := refRuns_ev L (by omega) _ 0 0 (Nat.zero_add _) (by omega) (by omega)
    generalize Pr.runN L L.size 0 0 = R at hr hr2
    refine Evt.bind ht (Evt.bind (Evt.bind ht hr) (Evt.bind hw (Evt.pos rfl (Evt.bind hrt ?_))))
    exact Evt.pos rfl (Evt.pos rfl (Evt.pos rfl (Evt.bind hr2 (Evt.pos rfl (Evt.pos rfl awake_bind)))))
end Go.Proofs.YtpeeflkodpnbpaaDoor.Pure
