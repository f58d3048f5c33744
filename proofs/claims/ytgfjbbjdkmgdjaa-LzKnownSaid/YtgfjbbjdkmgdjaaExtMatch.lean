/- Match as an extern of the printed walks. -/
import Derived.Test.YtgfjbbjdkmgdjaaMatch
import Derived.Test.YtgfjbbjdkmgdjaaWWords
namespace Go.Proofs.Ytgfjbbjdkmgdjaa.Ext
open Go.RowKit Go.Proofs.YtgfjbbjdkmgdjaaW.PrintWords Go.Proofs.Ytgfjbbjdkmgdjaa.Lz
theorem reps_more {α : Type} (f : Tok → α) (R : α → List Value → Prop) (h : ∀ t, R (f t) (tokC t).toList) : ∀ (ts : List Tok) (ps : List α) (cs : List Value), Reps R 3 ps cs → Reps R 3 (ps ++ ts.map f) (cs ++ toksC ts)
  | [], ps, cs, hr => by simpa [toksC] using hr
  | t :: ts, ps, cs, hr => by
    have := reps_more f R h ts (ps ++ [f t]) (cs ++ (tokC t).toList) (hr.snoc (h t) rfl)
    simpa [toksC, List.append_assoc] using this
theorem reps_toks {α : Type} (f : Tok → α) (R : α → List Value → Prop) (h : ∀ t, R (f t) (tokC t).toList) (ts : List Tok) : Reps R 3 (ts.map f) (toksC ts) := by
  simpa using reps_more f R h ts [] [] (Reps.none R 3)
theorem match_calls (A0 : Option Addr) (c0 : Nat) (l0 : List Int) (w : World) (hr0 : Kd.C (Kd.int .u8) w A0 l0.length l0) (hc0 : l0.length ≤ c0) (hb : okM l0 = true) :
    Calls Try.prog 10 #[.slice A0 l0.length c0] w fun e w' => ∃ v, e = .returned v ∧ w'.ownsRow w.heap.size 26 3 v (matchS (nat l0)).length (toksC (matchS (nat l0))) ∧ Below w.heap.size w w' :=
  match_walk A0 c0 l0 hb w hr0 hc0
end Go.Proofs.Ytgfjbbjdkmgdjaa.Ext
