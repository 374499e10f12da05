/- A state as one object: what it is asked, and does. -/
import Derived.Test.YtogfcpaalcebdaaCEKnow0
import Derived.Test.YtogfcpaalcebdaaCEWFI
import Derived.Test.YtogfcpaalcebdaaCEng24
namespace Go.Proofs.YtogfcpaalcebdaaE
open Go Go.RowKit
set_option linter.unusedVariables false
set_option linter.unusedSimpArgs false
set_option maxRecDepth 1000000
/-! ### a state but for the rows' versions -/
def Ch.strip (c : Ch) : Ch := { c with ver := 0 }
def Sg.strip (σ : Sg) : Sg := { σ with ch := σ.ch.map Ch.strip }
section
variable {σ τ : Sg} {k : Int} {i : Ins} {ver : Nat}
theorem chAt_strip (l : List Ch) (n : Int) : chAt (l.map Ch.strip) n = (chAt l n).strip := by
  unfold chAt
  rw [List.getD_eq_getElem?_getD, List.getD_eq_getElem?_getD, List.getElem?_map]
  cases l[n.toNat]? <;> rfl
theorem thAt_strip : thAt σ.strip k = thAt σ k := rfl
theorem insAt_strip : insAt σ.strip k = insAt σ k := rfl
theorem endd_strip : endd σ.strip k = endd σ k := rfl
theorem blk_strip : blk σ.strip i = blk σ i := by
  unfold blk
  rw [show σ.strip.ch = σ.ch.map Ch.strip from rfl, chAt_strip, chAt_strip]
  rfl
theorem can_strip : can σ.strip k = can σ k := by
  unfold can
  rw [blk_strip]
  rfl
theorem strip_strip : σ.strip.strip = σ.strip := by
  unfold Sg.strip
  simp [Ch.strip]
theorem setCh_strip {n : Nat} {c : Ch} : (setCh σ n c).strip = setCh σ.strip n c.strip := by
  unfold setCh Sg.strip
  simp [List.map_set]
theorem setCh_strip2 {n : Nat} {c d : Ch} (h : c.strip = d.strip) : (setCh σ n c).strip = (setCh σ.strip n d).strip := by
  rw [setCh_strip, setCh_strip, h, strip_strip]
theorem takeC_strip {v md : Int} : (takeC σ i v md ver).1.strip = (takeC σ.strip i v md 0).1.strip ∧ (takeC σ i v md ver).2 = (takeC σ.strip i v md 0).2 := by
  unfold takeC
  rw [show σ.strip.ch = σ.ch.map Ch.strip from rfl, chAt_strip]
  show _ ∧ _
  cases h : (chAt σ.ch i.b).row with
  | nil =>
    have h' : (chAt σ.ch i.b).strip.row = [] := h
    rw [h']
    dsimp only
    have h2 : (chAt σ.ch i.b).strip.closed = (chAt σ.ch i.b).closed := rfl
    rw [h2]
    split <;> exact ⟨strip_strip.symm, rfl⟩
  | cons x r =>
    have h' : (chAt σ.ch i.b).strip.row = x :: r := h
    rw [h']
    exact ⟨setCh_strip2 rfl, rfl⟩
theorem s_th {n : Nat} {u : Th} : (setTh σ n u).strip = (setTh σ.strip n u).strip := (strip_strip (σ := setTh σ n u)).symm
theorem s_var {n : Nat} {u : Int} : (setVar σ n u).strip = (setVar σ.strip n u).strip := (strip_strip (σ := setVar σ n u)).symm
theorem s_atom {n : Nat} {u : Int} : (setAtom σ n u).strip = (setAtom σ.strip n u).strip := (strip_strip (σ := setAtom σ n u)).symm
theorem s_lock {n : Nat} {u : Int} : (setLock σ n u).strip = (setLock σ.strip n u).strip := (strip_strip (σ := setLock σ n u)).symm
theorem s_group {n : Nat} {u : Int} : (setGroup σ n u).strip = (setGroup σ.strip n u).strip := (strip_strip (σ := setGroup σ n u)).symm
theorem s_once {n : Nat} {u : Int} : (setOnce σ n u).strip = (setOnce σ.strip n u).strip := (strip_strip (σ := setOnce σ n u)).symm
theorem s_told {l : List Int} : (setTold σ l).strip = (setTold σ.strip l).strip := (strip_strip (σ := setTold σ l)).symm
theorem s_th2 {a b : Sg} {n : Nat} {u : Th} (h : a.strip = b.strip) : (setTh a n u).strip = (setTh b n u).strip := by rw [s_th, h, ← s_th]
theorem s_trap2 {a b : Sg} {u : Bool} (h : a.strip = b.strip) : (setTrap a u).strip = (setTrap b u).strip := by
  have e : ∀ c : Sg, (setTrap c u).strip = setTrap c.strip u := fun _ => rfl
  rw [e, e, h]
theorem takeF_strip {n : Nat} {t : Th} {v md : Int} : (takeF σ n t i v md ver).1.strip = (takeF σ.strip n t i v md 0).1.strip ∧ (takeF σ n t i v md ver).2 = (takeF σ.strip n t i v md 0).2 := by
  obtain ⟨h1, h2⟩ := @takeC_strip σ i ver v md
  unfold takeF
  dsimp only
  by_cases e1 : i.op = 17
  · simp only [if_pos e1]; exact ⟨s_th, by first | rfl | trivial⟩
  simp only [if_neg e1]
  by_cases e2 : i.op = 19
  · simp only [if_pos e2]; exact ⟨s_th2 s_atom, by first | rfl | trivial⟩
  simp only [if_neg e2]
  by_cases e3 : i.op = 26
  · simp only [if_pos e3]
    have h0 : σ.strip.onces = σ.onces := rfl
    rw [h0]
    by_cases e4 : at0 σ.onces i.b = 0
    · simp only [if_pos e4]; exact ⟨s_th2 s_once, by first | rfl | trivial⟩
    · simp only [if_neg e4]; exact ⟨s_th, by first | rfl | trivial⟩
  simp only [if_neg e3]
  rw [← h2]
  by_cases e4 : i.op = 22
  · simp only [if_pos e4]; exact ⟨s_th2 h1, by first | rfl | trivial⟩
  · simp only [if_neg e4]; exact ⟨s_th2 h1, by first | rfl | trivial⟩
theorem giveF_strip {t : Th} {v : Int} : (giveF σ t i v ver).1.strip = (giveF σ.strip t i v 0).1.strip ∧ (giveF σ t i v ver).2 = (giveF σ.strip t i v 0).2 := by
  unfold giveF
  rw [show σ.strip.ch = σ.ch.map Ch.strip from rfl, chAt_strip]
  have b1 : ∀ c : Ch, c.strip.closed = c.closed := fun _ => rfl
  have b2 : ∀ c : Ch, c.strip.row = c.row := fun _ => rfl
  have b3 : σ.strip.locks = σ.locks := rfl
  have b4 : σ.strip.groups = σ.groups := rfl
  have b5 : σ.strip.onces = σ.onces := rfl
  have b6 : ∀ x, thAt σ.strip x = thAt σ x := fun _ => rfl
  simp only [b1, b2, b3, b4, b5, b6]
  by_cases e1 : i.op = 12
  · simp only [if_pos e1]; exact ⟨s_th, by first | rfl | trivial⟩
  simp only [if_neg e1]
  by_cases e2 : i.op = 13
  · simp only [if_pos e2]; exact ⟨s_lock, by first | rfl | trivial⟩
  simp only [if_neg e2]
  by_cases e3 : i.op = 15
  · simp only [if_pos e3]; exact ⟨s_lock, by first | rfl | trivial⟩
  simp only [if_neg e3]
  by_cases e4 : i.op = 14
  · simp only [if_pos e4]
    split <;> first | exact ⟨s_lock, by first | rfl | trivial⟩ | exact ⟨strip_strip.symm, by first | rfl | trivial⟩
  simp only [if_neg e4]
  by_cases e5 : i.op = 16
  · simp only [if_pos e5]
    split <;> first | exact ⟨s_lock, by first | rfl | trivial⟩ | exact ⟨strip_strip.symm, by first | rfl | trivial⟩
  simp only [if_neg e5]
  by_cases e6 : i.op = 18
  · simp only [if_pos e6]; exact ⟨s_atom, by first | rfl | trivial⟩
  simp only [if_neg e6]
  by_cases e7 : i.op = 20
  · simp only [if_pos e7]
    split <;> first | exact ⟨setCh_strip2 rfl, by first | rfl | trivial⟩ | exact ⟨strip_strip.symm, by first | rfl | trivial⟩
  simp only [if_neg e7]
  by_cases e8 : i.op = 23
  · simp only [if_pos e8]; exact ⟨setCh_strip2 rfl, by first | rfl | trivial⟩
  simp only [if_neg e8]
  by_cases e9 : i.op = 24
  · simp only [if_pos e9]
    split <;> first | exact ⟨s_group, by first | rfl | trivial⟩ | exact ⟨strip_strip.symm, by first | rfl | trivial⟩
  simp only [if_neg e9]
  by_cases e10 : i.op = 27
  · simp only [if_pos e10]
    split <;> first | exact ⟨s_once, by first | rfl | trivial⟩ | exact ⟨strip_strip.symm, by first | rfl | trivial⟩
  simp only [if_neg e10]
  exact ⟨strip_strip.symm, by first | rfl | trivial⟩
theorem goF_strip : (goF σ k ver).1.strip = (goF σ.strip k 0).1.strip ∧ (goF σ k ver).2 = (goF σ.strip k 0).2 := by
  have e1 : ∀ n t, setTh σ.strip n t = (setTh σ n t).strip := fun _ _ => rfl
  unfold goF
  rw [thAt_strip, insAt_strip]
  dsimp only
  rw [e1]
  cases h : ownF (adv1 (thAt σ k)) (insAt σ k) with
  | some t2 => exact ⟨s_th, by first | rfl | trivial⟩
  | none =>
    dsimp only
    by_cases e7 : (insAt σ k).op = 7
    · simp only [if_pos e7]; exact ⟨s_th, by first | rfl | trivial⟩
    simp only [if_neg e7]
    by_cases e8 : (insAt σ k).op = 8
    · simp only [if_pos e8]; exact ⟨s_var, by first | rfl | trivial⟩
    simp only [if_neg e8]
    by_cases e9 : (insAt σ k).op = 9
    · simp only [if_pos e9]; exact ⟨s_told, by first | rfl | trivial⟩
    simp only [if_neg e9]
    by_cases ea : (insAt σ k).op = 17 ∨ (insAt σ k).op = 19 ∨ (insAt σ k).op = 21 ∨ (insAt σ k).op = 22 ∨ (insAt σ k).op = 26
    · simp only [if_pos ea]
      obtain ⟨h1, h2⟩ := @takeF_strip (setTh σ k.toNat (adv1 (thAt σ k))) (insAt σ k) ver k.toNat (adv1 (thAt σ k)) 0 0
      rw [← h2]
      exact ⟨h1, by first | rfl | trivial⟩
    · simp only [if_neg ea]
      obtain ⟨h1, h2⟩ := @giveF_strip (setTh σ k.toNat (adv1 (thAt σ k))) (insAt σ k) ver (adv1 (thAt σ k)) 0
      rw [← h2]
      exact ⟨s_trap2 h1, by first | rfl | trivial⟩
end
def nextT (τ : Sg) (k : Int) : Sg × Evt := ((nextF τ k 0).1.strip, (nextF τ k 0).2)
theorem next_strip (σ : Sg) (k : Int) (ver : Nat) : (nextF σ k ver).1.strip = (nextT σ.strip k).1 ∧ (nextF σ k ver).2 = (nextT σ.strip k).2 := by
  unfold nextT nextF
  rw [can_strip]
  by_cases h : can σ k = true
  · rw [if_pos h, if_pos h]
    obtain ⟨h1, h2⟩ := @goF_strip σ k ver
    exact ⟨h1, h2⟩
  · rw [if_neg h, if_neg h]
    exact ⟨strip_strip.symm, rfl⟩
theorem WF_strip {σ : Sg} (h : WF σ.strip) : WF σ := by
  have e : σ.strip.ch.length = σ.ch.length := by simp [Sg.strip]
  refine ⟨h.len, by rw [← e]; exact h.lch, h.at_, h.regs, fun c hc i hi => ?_, fun c hc i hi => ?_, h.reg⟩
  · have q := h.fit c hc i hi
    exact ⟨q.l, by have := q.s; rw [e] at this; exact this, by have := q.r; rw [e] at this; exact this, q.g, q.o, q.e⟩
  · have q := h.fit2 c hc i hi
    exact ⟨q.v, q.w, q.m, q.n, q.t⟩
theorem init_strip (p : Prg) : (initS p).strip = initS p := by
  unfold Sg.strip initS initS0 setTh
  simp [Ch.strip]
def isT (τ : Sg) (mc : Mem2) : Prop := ∃ σ : Sg, σ.strip = τ ∧ mc = M σ []
@[reducible] def stT (τ : Sg) : Ob := .abs (absP (isT τ))
theorem m_fold (σ : Sg) : FoldTo (M σ []) 0 [1, 2, 3, 4, 5, 6, 7, 8] (M σ []) := ⟨⟨stBox σ, rfl⟩, by decide, rfl⟩
theorem m_no0 (σ : Sg) : ∀ (j : Nat) o, (M σ [])[j]? = some (some o) → renOb no0 o = some o := fun j o h => by
  match j, h with
  | 0, h => cases h; rfl
  | 1, h => cases h; rfl
  | 2, h => cases h; rfl
  | 3, h => cases h; rfl
  | 4, h => cases h; rfl
  | 5, h => cases h; rfl
  | 6, h => cases h; rfl
  | 7, h => cases h; rfl
  | 8, h => cases h; rfl
theorem m_sub {f : FuncId} {xs : List V} {τ : Sg} {Post2 : V → Mem2 → List Nat → Prop} (hx : renL (fun _ => none) xs = some xs)
    (h : ∀ σ : Sg, σ.strip = τ → ∃ Post, Meets f (.ptr 0 0 0 :: xs) (M σ []) Post ∧ ∀ r m' mv, Post r m' mv → 0 ∉ mv ∧ ren (fun _ => none) r = some r ∧ ∃ σ', m' = M σ' [] ∧ Post2 r [some (stT σ'.strip)] []) : Meets f (.ptr 0 0 0 :: xs) [some (stT τ)] Post2 := by
  refine conv_sub hx fun mc ⟨σ, e, hm⟩ => ?_
  subst hm
  obtain ⟨Post, h1, h2⟩ := h σ e
  refine ⟨⟨stBox σ, rfl⟩, m_no0 σ, Post, h1, fun r m' mv hp => ?_⟩
  obtain ⟨q1, q2, σ', rfl, q3⟩ := h2 r m' mv hp
  exact ⟨q1, q2, _, _, _, m_fold σ', ⟨σ', rfl, rfl⟩, q3⟩
theorem m_ask {f : FuncId} {xs : List V} {τ : Sg} {x : V} (hx : renL (fun _ => none) xs = some xs) (hr : ren (fun _ => none) x = some x) (h : ∀ σ : Sg, σ.strip = τ → Meets f (.ptr 0 0 0 :: xs) (M σ []) (pt x (M σ []) [])) : Meets f (.ptr 0 0 0 :: xs) [some (stT τ)] (pt x [some (stT τ)] []) :=
  m_sub hx fun σ e => ⟨_, h σ e, fun r m' mv ⟨h1, h2, h3⟩ => by subst h1 h2 h3; exact ⟨by simp, hr, σ, rfl, rfl, by rw [e], rfl⟩⟩
theorem meets_nl {f : FuncId} {x y : V} {m : Mem2} {P : V → Mem2 → List Nat → Prop} (e : nlV x = y) (h : Meets f [y] m P) : Meets f [x] m P := fun G w vs hok hv => h G w vs hok ⟨hv.1, fun j z hj => by
  match j, hj with
  | 0, hj =>
    cases hj
    rw [← e]
    exact nlV_sound (hv.2 0 _ rfl)⟩
inductive SS : Spec
  | new (p : Prg) (hP : OkP p) (h : soundF p = 0) (x : V) (hx : nlV x = .agg p.cells) : SS 29 [x] [] (pt (.ptr 0 0 0) [some (stT (initS p))] [])
  | newN (p : Prg) (hP : OkP p) (h : soundF p ≠ 0) (x : V) (hx : nlV x = .agg p.cells) : SS 29 [x] [] (pt (.c (.sc (.pointer none))) [] [])
  | step (τ : Sg) (k : Int) (hW : WF τ) (ht : τ.told.length < 1000000) (hch : ∀ c ∈ τ.ch, c.row.length < 1000000) : SS 30 [.ptr 0 0 0, nI k] [some (stT τ)] (pt (.tup [.agg (nextT τ k).2.cells, nB (can τ k)]) [some (stT (nextT τ k).1)] [])
  | status (τ : Sg) (hW : WF τ) (hl : τ.th.length < 1000000) : SS 32 [.ptr 0 0 0] [some (stT τ)] (pt (nU (statF τ)) [some (stT τ)] [])
  | prints (τ : Sg) (hl : τ.told.length < 1000000) : SS 31 [.ptr 0 0 0] [some (stT τ)] (pt (.c (.ls (encI τ.told))) [some (stT τ)] [])
  | can (τ : Sg) (k : Int) (hW : WF τ) : SS 23 [.ptr 0 0 0, nI k] [some (stT τ)] (pt (nB (can τ k)) [some (stT τ)] [])
theorem SS_good : Good SS := by
  refine ⟨fun f a m P h => ?_, fun f a m P h => ?_⟩
  · cases h with
    | new p hP h x hx =>
      refine meets_nl (by rw [hx]) (conv_new (new_m TG_good p hP) fun r m' mv hp => .inr ?_)
      obtain ⟨h1, h2⟩ := hp
      have h1 : newP p r m' := h1
      rw [newP, if_pos h] at h1
      obtain ⟨rfl, rfl⟩ := h1
      exact ⟨rfl, _, _, _, m_fold (initS p), ⟨initS p, init_strip p, rfl⟩, rfl, rfl, rfl⟩
    | newN p hP h x hx =>
      refine meets_nl (by rw [hx]) (conv_new (new_m TG_good p hP) fun r m' mv hp => .inl ?_)
      obtain ⟨h1, h2⟩ := hp
      have h1 : newP p r m' := h1
      rw [newP, if_neg h] at h1
      obtain ⟨rfl, rfl⟩ := h1
      exact ⟨rfl, rfl, rfl, rfl⟩
    | step τ k hW ht hch =>
      refine m_sub rfl fun σ e => ?_
      subst e
      refine ⟨_, step_m SB_good σ k (WF_strip hW) ht fun c hc => hch c.strip (List.mem_map_of_mem hc), fun r m' mv hp => ?_⟩
      obtain ⟨⟨ver, h1⟩, h2⟩ := hp
      subst h2
      refine ⟨by simp, ?_⟩
      obtain ⟨n1, n2⟩ := next_strip σ k ver
      rw [can_strip, ← n1, ← n2]
      unfold nextF
      by_cases hc : can σ k = true
      · rw [if_pos hc] at h1 ⊢
        obtain ⟨rfl, rfl⟩ := h1
        rw [hc]
        exact ⟨rfl, _, rfl, rfl, rfl, rfl⟩
      · rw [if_neg hc] at h1 ⊢
        obtain ⟨rfl, rfl⟩ := h1
        rw [show can σ k = false by simpa using hc]
        exact ⟨rfl, _, rfl, rfl, rfl, rfl⟩
    | status τ hW hl =>
        refine m_ask rfl rfl fun σ e => ?_
        subst e
        have e2 : statF σ.strip = statF σ := by
          unfold statF
          simp only [can_strip]
          rfl
        rw [e2]
        exact status_m SQ_good σ (WF_strip hW) hl
    | prints τ hl => exact m_ask rfl rfl fun σ e => by subst e; exact prints_m SP_good σ hl
    | can τ k hW => exact m_ask rfl rfl fun σ e => by subst e; rw [can_strip]; exact can_m SA_good σ k (WF_strip hW)
  · cases h with
    | new p hP h x hx => exact ⟨_, Try.func29, rfl, rfl⟩
    | newN p hP h x hx => exact ⟨_, Try.func29, rfl, rfl⟩
    | step τ k hW ht hch => exact ⟨_, Try.func30, rfl, rfl⟩
    | status τ hW hl => exact ⟨_, Try.func32, rfl, rfl⟩
    | prints τ hl => exact ⟨_, Try.func31, rfl, rfl⟩
    | can τ k hW => exact ⟨_, Try.func23, rfl, rfl⟩
end Go.Proofs.YtogfcpaalcebdaaE
/- The chapter's example. -/
namespace Go.Proofs.YtogfcpaalcebdaaE
open Go Go.RowKit
set_option linter.unusedVariables false
set_option linter.unusedSimpArgs false
set_option maxRecDepth 1000000
set_option maxHeartbeats 8000000
def kp : Prg := ⟨0, 0, 0, [], 0, 0, [[⟨1, 0, 7, 0⟩, ⟨9, 0, 0, 0⟩]]⟩
def kp0 : Prg := ⟨0, 0, 0, [], 0, 0, []⟩
theorem kp_ok : OkP kp := ⟨by decide, by decide, by decide, by decide⟩
theorem kp0_ok : OkP kp0 := ⟨by decide, by decide, by decide, by decide⟩
theorem kp_s : soundF kp = 0 := by decide
theorem kp0_s : soundF kp0 = 3 := by decide
def k0 : Sg := ⟨kp, [⟨true, 0, [0, 0, 0, 0]⟩], [], [], [], [], [], [], [], false⟩
def k1 : Sg := ⟨kp, [⟨true, 1, [7, 0, 0, 0]⟩], [], [], [], [], [], [], [], false⟩
def k2 : Sg := ⟨kp, [⟨true, 2, [7, 0, 0, 0]⟩], [], [], [], [], [], [], [7], false⟩
theorem k0_e : initS kp = k0 := rfl
theorem kcode {l : List (List Ins)} (h : l = kp.code) {P : List Ins → Ins → Prop} (h1 : P [⟨1, 0, 7, 0⟩, ⟨9, 0, 0, 0⟩] ⟨1, 0, 7, 0⟩) (h2 : P [⟨1, 0, 7, 0⟩, ⟨9, 0, 0, 0⟩] ⟨9, 0, 0, 0⟩) : ∀ c ∈ l, ∀ i ∈ c, P c i := by
  subst h
  intro c hc i hi
  simp only [kp, List.mem_singleton] at hc
  subst hc
  simp only [List.mem_cons, List.not_mem_nil, or_false] at hi
  rcases hi with rfl | rfl
  · exact h1
  · exact h2
theorem kWF {σ : Sg} (hp : σ.p = kp) {t : Th} (ht : σ.th = [t]) (hc : σ.ch = []) (ha : 0 ≤ t.at_ ∧ t.at_ ≤ 2) (hr : t.regs.length = 4) : WF σ := by
  refine ⟨by rw [ht, hp]; rfl, by rw [hc, hp]; rfl, fun k t' c h1 h2 => ?_, fun k t' h1 => ?_, ?_, ?_, ?_⟩
  · rw [ht] at h1
    rw [hp] at h2
    match k, h1, h2 with
    | 0, h1, h2 => cases h1; cases h2; exact ha
  · rw [ht] at h1
    match k, h1 with
    | 0, h1 => cases h1; exact hr
  · refine kcode (by rw [hp]) ?_ ?_ <;> constructor <;> intro h <;> simp at h
  · refine kcode (by rw [hp]) ?_ ?_ <;> constructor <;> intro h <;> simp at h
  · refine kcode (by rw [hp]) ?_ ?_ <;> constructor <;> intro h <;> simp at h ⊢
theorem k0_w : WF k0 := kWF rfl rfl rfl (by decide) rfl
theorem k1_w : WF k1 := kWF rfl rfl rfl (by decide) rfl
theorem k2_w : WF k2 := kWF rfl rfl rfl (by decide) rfl
theorem k0_c : can k0 0 = true := by decide
theorem k1_c : can k1 0 = true := by decide
theorem k0_g (ver : Nat) : goF k0 0 ver = (k1, ⟨0, 0, 1, 0, 0, 0⟩) := rfl
theorem k1_g (ver : Nat) : goF k1 0 ver = (k2, ⟨0, 1, 9, 0, 7, 0⟩) := rfl
theorem k2_s : statF k2 = 1 := by decide
theorem k0_st {r : V} {a : Mem2} (h : stepP k0 0 r a) : r = .tup [.agg [nI 0, nI 0, nU 1, nI 0, nI 0, nI 0], nB true] ∧ a = M k1 [] := by
  obtain ⟨ver, h⟩ := h
  rw [if_pos k0_c, k0_g] at h
  exact h
theorem k1_st {r : V} {a : Mem2} (h : stepP k1 0 r a) : r = .tup [.agg [nI 0, nI 1, nU 9, nI 0, nI 7, nI 0], nB true] ∧ a = M k2 [] := by
  obtain ⟨ver, h⟩ := h
  rw [if_pos k1_c, k1_g] at h
  exact h
theorem k0_ex : stepP k0 0 (.tup [.agg [nI 0, nI 0, nU 1, nI 0, nI 0, nI 0], nB true]) (M k1 []) := ⟨0, by rw [if_pos k0_c, k0_g]; exact ⟨rfl, rfl⟩⟩
theorem k1_ex : stepP k1 0 (.tup [.agg [nI 0, nI 1, nU 9, nI 0, nI 7, nI 0], nB true]) (M k2 []) := ⟨0, by rw [if_pos k1_c, k1_g]; exact ⟨rfl, rfl⟩⟩
theorem new_k {r : V} {a : Mem2} (h : newP kp r a) : r = .ptr 0 0 0 ∧ a = M k0 [] := by
  unfold newP at h
  rw [if_pos kp_s, k0_e] at h
  exact h
theorem new_ke : newP kp (.ptr 0 0 0) (M k0 []) := by
  unfold newP
  rw [if_pos kp_s, k0_e]
  exact ⟨rfl, rfl⟩
theorem new_0 {r : V} {a : Mem2} (h : newP kp0 r a) : r = .c (.sc (.pointer none)) ∧ a = [] := by
  unfold newP at h
  rw [if_neg (by rw [kp0_s]; decide)] at h
  exact h
theorem new_0e : newP kp0 (.c (.sc (.pointer none))) [] := by
  unfold newP
  rw [if_neg (by rw [kp0_s]; decide)]
  exact ⟨rfl, rfl⟩
end Go.Proofs.YtogfcpaalcebdaaE
/- Calls with states as one object. -/
namespace Go.Proofs.YtogfcpaalcebdaaE
open Go Go.RowKit
set_option linter.unusedVariables false
set_option linter.unusedSimpArgs false
set_option maxRecDepth 1000000
set_option maxHeartbeats 8000000
section
variable {E : Env} {f : FuncId} {xs xs' : List V} {x x2 : V} {m mc mc' m2 : Mem2} {k : V → Mem2 → Prop}
theorem call_L (L : List Nat) (hS : E.S f xs' mc (pt x mc' [])) (hL : nodupL L = true) (hf : footM m (fun id => posOf id L) L = some mc) (ha : renL (fun id => posOf id L) xs = some xs') (hb : backM L [] m mc' = some m2) (hr : ren (back L (newIds L [] mc'.length) m.length) x = some x2) (hk : k x2 m2) : WCall E (.fn f []) xs m k :=
  ⟨f, [], L, mc, xs', _, rfl, nodupL_ok hL, hf, by rw [List.append_nil]; exact ha, hS, ⟨x, _, _, rfl, rfl, rfl⟩, fun r mc1 mv ⟨h1, h2, h3⟩ => by
    subst h1 h2 h3
    exact ⟨.nil, fun j hj => (by cases hj), m2, x2, hb, hr, hk⟩⟩
end
mutual
theorem ren_no {ρ : Nat → Option Nat} : ∀ {x y : V}, ren (fun _ => none) x = some y → ren ρ x = some y
  | .any, y, h => h
  | .c _, y, h => h
  | .nl, y, h => h
  | .ic _, y, h => h
  | .at _, y, h => h
  | .ptr _ _ _, y, h => by simp [ren] at h
  | .sl _ _ _ _ _, y, h => by simp [ren] at h
  | .rw _ _ _ _ _ _, y, h => by simp [ren] at h
  | .rp _ _ _ _ _, y, h => by simp [ren] at h
  | .agg cs, y, h => by
    simp only [ren] at h ⊢
    cases q : renL (fun _ => none) cs with
    | none => rw [q] at h; cases h
    | some l => rw [q] at h; rw [renL_no q]; exact h
  | .tup cs, y, h => by
    simp only [ren] at h ⊢
    cases q : renL (fun _ => none) cs with
    | none => rw [q] at h; cases h
    | some l => rw [q] at h; rw [renL_no q]; exact h
  | .fn _ cs, y, h => by
    simp only [ren] at h ⊢
    cases q : renL (fun _ => none) cs with
    | none => rw [q] at h; cases h
    | some l => rw [q] at h; rw [renL_no q]; exact h
  | .mp _, y, h => by simp [ren] at h
  | .bb, y, h => h
theorem renL_no {ρ : Nat → Option Nat} : ∀ {x y : List V}, renL (fun _ => none) x = some y → renL ρ x = some y
  | [], y, h => h
  | a :: r, y, h => by
    simp only [renL] at h ⊢
    cases q : ren (fun _ => none) a with
    | none => rw [q] at h; cases h
    | some b =>
      rw [q] at h
      rw [ren_no q]
      dsimp only at h ⊢
      cases q2 : renL (fun _ => none) r with
      | none => rw [q2] at h; cases h
      | some l => rw [q2] at h; rw [renL_no q2]; exact h
end
theorem backA_one {β : Nat → Option Nat} {i : Nat} {P' : (Nat → Prop) → (Nat → Prop) → (Nat → Nat) → Nat → World → Prop} : ∀ (r : Mem2) (id0 : Nat), id0 ≤ i → i < id0 + r.length → backA β [i] [] [some (.abs P')] id0 r = some (r.set (i - id0) (some (.abs P')))
  | [], id0, h, h2 => by simp at h2; omega
  | o :: r, id0, h, h2 => by
    unfold backA
    by_cases e : id0 = i
    · subst e
      have hp : posOf id0 [id0] = some 0 := by simp [posOf]
      rw [hp]
      have key : ∀ (r : Mem2) (j : Nat), id0 < j → backA β [id0] [] [some (.abs P')] j r = some r := by
        intro r
        induction r with
        | nil => intro j hj; rfl
        | cons o r ih =>
          intro j hj
          unfold backA
          have hq : posOf j [id0] = none := by
            have : Nat.beq j id0 = false := by
              cases hb : Nat.beq j id0 with
              | false => rfl
              | true => have := Nat.eq_of_beq_eq_true hb; omega
            show (bif Nat.beq j id0 then some 0 else (posOf j []).map (· + 1)) = none
            rw [this]; rfl
          rw [hq]
          dsimp only
          rw [ih (j + 1) (by omega)]
      show (match (some (some (Ob.abs P')) : Option (Option Ob)) with
        | some o' => match backA β [id0] [] [some (.abs P')] (id0 + 1) r with
          | some l => some (o' :: l)
          | none => none
        | none => none) = _
      rw [key r (id0 + 1) (by omega)]
      simp
    · have hq : posOf id0 [i] = none := by
        have : Nat.beq id0 i = false := by
          cases hb : Nat.beq id0 i with
          | false => rfl
          | true => exact absurd (Nat.eq_of_beq_eq_true hb) e
        show (bif Nat.beq id0 i then some 0 else (posOf id0 []).map (· + 1)) = none
        rw [this]; rfl
      rw [hq]
      dsimp only
      rw [backA_one r (id0 + 1) (by omega) (by simp at h2; omega)]
      have : i - id0 = (i - (id0 + 1)) + 1 := by omega
      rw [this]
      rfl
section
variable {E : Env} {f : FuncId} {xs : List V} {x : V} {m : Mem2} {k : V → Mem2 → Prop} {i lw : Nat} {P P' : (Nat → Prop) → (Nat → Prop) → (Nat → Nat) → Nat → World → Prop}
theorem call_abs (hS : E.S f (.ptr 0 0 0 :: xs) [some (.abs P)] (pt x [some (.abs P')] [])) (hx : renL (fun _ => none) xs = some xs) (hr : ren (fun _ => none) x = some x) (hm : m[i]? = some (some (.abs P))) (hk : k x (m.set i (some (.abs P')))) : WCall E (.fn f []) (.ptr i 0 0 :: xs) m k := by
  have hi := (List.getElem?_eq_some_iff.1 hm).1
  have ho : obGet m i = some (.abs P) := by unfold obGet; rw [hm]
  refine ⟨f, [], [i], [some (.abs P)], .ptr 0 0 0 :: xs, _, rfl, by simp, ?_, ?_, hS, ⟨x, _, _, rfl, rfl, rfl⟩, fun r mc1 mv ⟨h1, h2, h3⟩ => ?_⟩
  · unfold footM; rw [ho]; rfl
  · rw [List.append_nil]
    have hp : posOf i [i] = some 0 := by simp [posOf]
    simp only [renL, ren, hp, renL_no hx, Option.map_some]
  · subst h1 h2 h3
    refine ⟨.nil, fun j hj => (by cases hj), _, r, ?_, ren_no hr, hk⟩
    unfold backM
    rw [backA_one m 0 (Nat.zero_le _) (by omega)]
    show some (m.set (i - 0) (some (.abs P')) ++ []) = _
    rw [List.append_nil]
    rfl
theorem call_absq (hS : E.S f (.ptr 0 0 0 :: xs) [some (.abs P)] (pt x [some (.abs P)] [])) (hx : renL (fun _ => none) xs = some xs) (hr : ren (fun _ => none) x = some x) (hm : m[i]? = some (some (.abs P))) (hl : i < lw) (hk : k x m) : WCallQ E lw (.fn f []) (.ptr i 0 0 :: xs) m k := by
  have ho : obGet m i = some (.abs P) := by unfold obGet; rw [hm]
  refine ⟨f, [], [i], [some (.abs P)], .ptr 0 0 0 :: xs, _, rfl, by simp, fun id hid => (by simp at hid; omega), ?_, ?_, hS, ⟨x, rfl, rfl, rfl⟩, fun r mc' mv ⟨h1, h2, h3⟩ => ⟨h2, h3, x, by rw [h1]; exact ren_no hr⟩, fun r r2 ⟨h1, _, _⟩ h2 => ?_⟩
  · unfold footM; rw [ho]; rfl
  · rw [List.append_nil]
    have hp : posOf i [i] = some 0 := by simp [posOf]
    simp only [renL, ren, hp, renL_no hx, Option.map_some]
  · rw [h1, ren_no hr] at h2
    cases h2
    exact hk
theorem call_0 (hS : E.S f xs [] (pt x [] [])) (hx : renL (fun _ => none) xs = some xs) (hr : ren (fun _ => none) x = some x) (hk : k x m) : WCall E (.fn f []) xs m k := call_p hS hx (ren_no hr) hk
theorem call_mk (hS : E.S f xs [] (pt (.ptr 0 0 0) [some (.abs P)] [])) (hx : renL (fun _ => none) xs = some xs) (hk : k (.ptr m.length 0 0) (m ++ [some (.abs P)])) : WCall E (.fn f []) xs m k := by
  refine ⟨f, [], [], [], xs, _, rfl, .nil, rfl, by rw [List.append_nil]; exact hx, hS, ⟨_, _, _, rfl, rfl, rfl⟩, fun r mc1 mv ⟨h1, h2, h3⟩ => ?_⟩
  subst h1 h2 h3
  refine ⟨.nil, fun j hj => (by cases hj), m ++ [some (.abs P)], .ptr m.length 0 0, ?_, ?_, hk⟩
  · unfold backM
    rw [backA_nil]
    rfl
  · rfl
end
section
variable {E : Env} {f : FuncId} {xs xs' : List V} {x x2 : V} {m mc mc' m2 : Mem2} {k : V → Mem2 → Prop}
theorem rn_ptr {L : List Nat} {i k o : Nat} : renD L (.ptr i k o) = match posOf i L with | some j => .ptr j k o | none => .any := by
  unfold renD ren
  cases posOf i L <;> rfl
theorem rn_sl {L : List Nat} {i s o n : Nat} {c : Bool} : renD L (.sl i s o n c) = match posOf i L with | some j => .sl j s o n c | none => .any := by
  unfold renD ren
  cases posOf i L <;> rfl
theorem rn_any {L : List Nat} : renD L .any = .any := rfl
theorem gq_cmp {kk : Nat} {mv : List Nat} {K : St → Prop} {A : Nat → V} (L : List Nat) (h1 : nodupL L = true) (h2 : keepL kk mv L = true) (h3 : footM m (fun id => posOf id L) L = some mc) (hK : K ⟨fun t => renD L (A t), mc⟩) : Gq E kk mv K ⟨A, m⟩ := ⟨_, Gst.cmp h1 h2 h3, hK⟩
end
inductive SY : Spec
  | s {f : FuncId} {a : List V} {m : Mem2} {P : V → Mem2 → List Nat → Prop} (h : SS f a m P) : SY f a m P
  | picks (c : List Int) (hw8 : ∀ x ∈ c, 0 ≤ x ∧ x < 256) : SY 13 [.c (.ls (encU c))] [] (pt (.c (.ls (encI (picksF c)))) [] [])
theorem SY_good : Good SY := by
  refine ⟨fun f a m P h => ?_, fun f a m P h => ?_⟩
  · cases h with
    | s h => exact SS_good.ok _ _ _ _ h
    | picks c hw8 => exact picks_m Good.none c hw8
  · cases h with
    | s h => exact SS_good.fn _ _ _ _ h
    | picks c hw8 => exact ⟨_, Try.func13, rfl, rfl⟩
theorem pick_in {x : Int} (h : 0 ≤ x ∧ x < 256) : 0 ≤ pickF x ∧ pickF x ≤ 3 := by
  unfold pickF
  have h1 : x.tmod 13 = x % 13 := Int.tmod_eq_emod_of_nonneg h.1
  have h2 : 0 ≤ x % 13 ∧ x % 13 < 13 := ⟨Int.emod_nonneg _ (by decide), Int.emod_lt_of_pos _ (by decide)⟩
  rw [h1, wrap_small h2.1 (by omega)]
  have h3 : (x % 13).tdiv 4 = (x % 13) / 4 := Int.tdiv_eq_ediv_of_nonneg h2.1
  rw [h3, wrap_small (by omega) (by omega)]
  omega
theorem picks_in {c : List Int} (h : ∀ x ∈ c, 0 ≤ x ∧ x < 256) : ∀ k ∈ picksF c, 0 ≤ k ∧ k ≤ 3 := fun k hk => by
  unfold picksF at hk
  obtain ⟨x, hx, rfl⟩ := List.mem_map.1 hk
  exact pick_in (h x (List.mem_of_mem_take hx))
theorem picks_le {c : List Int} : (picksF c).length ≤ 60 := by unfold picksF; simp; omega
def goL (τ : Sg) (q : List Int) : Sg := q.foldl (fun s k => (nextT s k).1) τ
theorem goL_take {τ : Sg} {q : List Int} {j : Nat} {x : Int} (h : q[j]? = some x) : goL τ (q.take (j + 1)) = (nextT (goL τ (q.take j)) x).1 := by
  unfold goL
  rw [List.take_add_one, h]
  simp
end Go.Proofs.YtogfcpaalcebdaaE
