/- ParseParses, plainly: for any string, Copying returns the factors of the copying parse, and Learning those of the learning parse, or ErrArg. -/
import Derived.Test.YtpeeflkodpnbpaaDoorPrB1
import Derived.Test.YtpeeflkodpnbpaaDoorHAw
import Derived.Test.YtpeeflkodpnbpaaDoorHPar
namespace Go.Proofs.YtpeeflkodpnbpaaDoor.Pure
open Go.RowKit Go.Proofs.YtpeeflkodpnbpaaDoor.Pr Go.Proofs.YtpeeflkodpnbpaaDoorW.PrintWords Go.Proofs.YtpeeflkodpnbpaaDoorW.PrintLast
set_option linter.unusedVariables false

theorem ParseParses : numnahlaw09_ParseParses.Pure := by
  intro a0 _
  apply Evt.ex
  have hsz := shortS_size a0
  have hw := word_ev (shortS a0) (by omega)
  cases hc : isWordC (shortS a0) with
  | false =>
    rw [hc] at hw
    have h1 : parse_Copying.f (shortS a0) = some ([], 2) := by simp [parse_Copying.f, hc]
    have h2 : parse_Learning.f (shortS a0) = some ([], 2) := by simp [parse_Learning.f, parse_isWord.f, hc]
    show Evt (fun k => numnahlaw09_ParseParses.f k a0) true
    simp only [numnahlaw09_ParseParses.f, short_some, Option.bind_some, h1, h2]
    exact Evt.bind hw (Evt.neg (by decide) (Evt.pos (by trivial) (Evt.pos (by trivial) (Evt.pos (by trivial) (Evt.pos (by trivial) awake_bind)))))
  | true =>
    rw [hc] at hw
    have hs : (shortS a0).size ≤ 160 := ((isWordC_iff _).1 hc).1
    have h1 : parse_Copying.f (shortS a0) = some (copF (shortS a0) (shortS a0).size 0, 0) := by simp [parse_Copying.f, hc]
    have h2 : parse_Learning.f (shortS a0) = some (learnF (shortS a0) (shortS a0).size 0 [] [], 0) := by simp [parse_Learning.f, parse_isWord.f, hc, parse_learn.f, hs]
    have l1 := copF_len (shortS a0) (shortS a0).size 0
    have l2 := learnF_len (shortS a0) (shortS a0).size 0 [] []
    show Evt (fun k => numnahlaw09_ParseParses.f k a0) true
    simp only [numnahlaw09_ParseParses.f, short_some, Option.bind_some, h1, h2]
    exact Evt.bind hw (Evt.pos (by trivial) (Evt.bind (refCopying_ev _ hs) (Evt.bind (same_ev _ (by omega)) (Evt.pos (by trivial) (Evt.pos (by trivial) (Evt.bind (refLearning_ev _ hs) (Evt.bind (same_ev _ (by simp at l2; omega)) (Evt.pos (by trivial) (Evt.pos (by trivial) awake_bind)))))))))
end Go.Proofs.YtpeeflkodpnbpaaDoor.Pure
