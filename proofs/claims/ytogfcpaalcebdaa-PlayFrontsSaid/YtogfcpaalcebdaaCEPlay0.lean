/- Runs: words. -/
import Derived.Test.YtogfcpaalcebdaaCEMake
import Derived.Test.YtogfcpaalcebdaaCELawP
import Derived.Test.YtogfcpaalcebdaaCELaw0
import Derived.Test.YtogfcpaalcebdaaCEBld
namespace Go.Proofs.YtogfcpaalcebdaaE
open Go Go.RowKit
set_option linter.unusedVariables false
set_option linter.unusedSimpArgs false
set_option maxRecDepth 1000000
set_option maxHeartbeats 8000000
section
variable {E : Env} {f : FuncId} {xs xs' : List V} {x x2 : V} {m mc mc' m2 : Mem2} {k : V → Mem2 → Prop} {kk : Nat} {mv0 : List Nat}
theorem call_Lm (L mv : List Nat) (hS : E.S f xs' mc (pt x mc' mv)) (hL : nodupL L = true) (hf : footM m (fun id => posOf id L) L = some mc) (ha : renL (fun id => posOf id L) xs = some xs') (hmv : nodupL mv = true) (hm2 : ∀ j ∈ mv, j < L.length) (hb : backM L mv m mc' = some m2) (hr : ren (back L (newIds L mv mc'.length) m.length) x = some x2) (hk : k x2 m2) : WCall E (.fn f []) xs m k :=
 ⟨f, [], L, mc, xs', _, rfl, nodupL_ok hL, hf, by rw [List.append_nil]; exact ha, hS, ⟨x, _, _, rfl, rfl, rfl⟩, fun r mc1 mv1 ⟨h1, h2, h3⟩ => by
  subst h1 h2 h3
  exact ⟨nodupL_ok hmv, hm2, m2, x2, hb, hr, hk⟩⟩
end
theorem Gst.kill {E : Env} {kk : Nat} {mv : List Nat} {s : St} (id : Nat) : Gst E kk mv s ⟨s.A, s.m.set id none⟩ := fun G w a h => ⟨G, ⟨h.ok.kill id, h.fr, h.n, h.df⟩, .refl _ _, .refl _ _ _, fun q => by rw [List.length_set]; exact q⟩
def Evt.enc (e : Evt) : List C := [ci e.th, ci e.pc, .sc (.int .u8 e.op), ci e.obj, ci e.val, ci e.mode]
def encE (l : List Evt) : List (List C) := l.map Evt.enc
theorem encE_len {l : List Evt} : (encE l).length = l.length := by simp [encE]
structure RunS where
 s : Sg
 picks : List Int
 trace : List Evt
def RunS.box (r : RunS) (i j q : Nat) : Ob := .box [.ptr i 0 0, .nl, nU 0, .sl j 1 0 r.picks.length false, .sl q 6 0 r.trace.length false]
def MR (r : RunS) : Mem2 := [some (r.box 1 2 3), some (stT r.s), some (.arr 1 (encI r.picks)), some (.arr 6 (encE r.trace))]
def pickR (r : RunS) (k : Int) : RunS := if can r.s k = true then ⟨(nextT r.s k).1, r.picks ++ [k], r.trace ++ [(nextT r.s k).2]⟩ else r
structure Res where
 prints : List Int
 status : Int
 picks : List Int
 trace : List Evt
deriving DecidableEq
def Res.cells (r : Res) : List V := [.c (.ls (encI r.prints)), nU r.status, .c (.ls (encI r.picks)), .c (.ls (encE r.trace))]
def endR (r : RunS) : Res := ⟨r.s.told, statF r.s, r.picks, r.trace⟩
theorem tk_map {α β : Type} {f : α → β} {l : List α} : List.take l.length (l.map f) = l.map f := List.take_of_length_le (by simp)
inductive PV (p : Prg) : V → Prop
 | full : PV p (.agg p.cells)
 | noch (h : p.chans = []) : PV p (.agg [nI p.vars, nI p.atoms, nI p.locks, .nl, nI p.groups, nI p.onces, .c (.ls (p.code.map encC))])
 | none (h : p.chans = []) (h2 : p.code = []) : PV p (.agg [nI p.vars, nI p.atoms, nI p.locks, .nl, nI p.groups, nI p.onces, .nl])
theorem PV.nlv {p : Prg} {x : V} (h : PV p x) : nlV x = .agg p.cells := by
 cases h with
 | full => rfl
 | noch h => simp [nlV, nlV.nlL, Prg.cells, h, encI]
 | none h h2 => simp [nlV, nlV.nlL, Prg.cells, h, h2, encI]
theorem ia_evts {l : List Evt} {n : Int} {x : Evt} (h0 : 0 ≤ n) (h : l[n.toNat]? = some x) : pIndexAddr tab 29 (.c (.ls (encE l))) (nI n) = some (.at x.enc) := pIdx_map (i := ti41) h0 h rfl
theorem ld_evt {x : Evt} {m : Mem2} : aLoad tab m 41 (.at x.enc) = some (.agg x.cells) := rfl
end Go.Proofs.YtogfcpaalcebdaaE
