/- A state that may be stays one. -/
import Derived.Test.YtogfcpaalcebdaaCEPlain
import Derived.Test.YtogfcpaalcebdaaCENew
namespace Go.Proofs.YtogfcpaalcebdaaE
open Go Go.RowKit
set_option linter.unusedVariables false
set_option linter.unusedSimpArgs false
set_option maxRecDepth 1000000
def TOK (p : Prg) (k : Nat) (t : Th) : Prop := t.regs.length = 4 ∧ ∀ c, p.code[k]? = some c → 0 ≤ t.at_ ∧ t.at_ ≤ (c.length : Int)
structure KpS (n : Nat) (a b : Sg) : Prop where
  p : b.p = a.p
  th : b.th.length = a.th.length
  vars : b.vars.length = a.vars.length
  atoms : b.atoms.length = a.atoms.length
  locks : b.locks.length = a.locks.length
  ch : b.ch.length = a.ch.length
  groups : b.groups.length = a.groups.length
  onces : b.onces.length = a.onces.length
  tk : ∀ k t, b.th[k]? = some t → TOK a.p k t
  row : ∀ c ∈ b.ch, c.row.length ≤ n
  told : b.told.length ≤ n
section
variable {n : Nat} {a b : Sg}
theorem KpS.setTh (h : KpS n a b) {k : Nat} {t : Th} (ht : k < a.th.length → TOK a.p k t) : KpS n a (setTh b k t) :=
  ⟨h.p, by rw [show (YtogfcpaalcebdaaE.setTh b k t).th = b.th.set k t from rfl, List.length_set]; exact h.th, h.vars, h.atoms, h.locks, h.ch, h.groups, h.onces, fun j u hj => by
    have hj2 : (b.th.set k t)[j]? = some u := hj
    clear hj
    rw [List.getElem?_set] at hj2
    by_cases e : k = j
    · subst e
      rw [if_pos rfl] at hj2
      by_cases e2 : k < b.th.length
      · rw [if_pos e2] at hj2
        cases hj2
        exact ht (by rw [← h.th]; exact e2)
      · rw [if_neg e2] at hj2
        cases hj2
    · rw [if_neg e] at hj2
      exact h.tk _ _ hj2, h.row, h.told⟩
theorem KpS.setVar (h : KpS n a b) {k : Nat} {x : Int} : KpS n a (setVar b k x) := ⟨h.p, h.th, by rw [show (YtogfcpaalcebdaaE.setVar b k x).vars = b.vars.set k x from rfl, List.length_set]; exact h.vars, h.atoms, h.locks, h.ch, h.groups, h.onces, h.tk, h.row, h.told⟩
theorem KpS.setAtom (h : KpS n a b) {k : Nat} {x : Int} : KpS n a (setAtom b k x) := ⟨h.p, h.th, h.vars, by rw [show (YtogfcpaalcebdaaE.setAtom b k x).atoms = b.atoms.set k x from rfl, List.length_set]; exact h.atoms, h.locks, h.ch, h.groups, h.onces, h.tk, h.row, h.told⟩
theorem KpS.setLock (h : KpS n a b) {k : Nat} {x : Int} : KpS n a (setLock b k x) := ⟨h.p, h.th, h.vars, h.atoms, by rw [show (YtogfcpaalcebdaaE.setLock b k x).locks = b.locks.set k x from rfl, List.length_set]; exact h.locks, h.ch, h.groups, h.onces, h.tk, h.row, h.told⟩
theorem KpS.setGroup (h : KpS n a b) {k : Nat} {x : Int} : KpS n a (setGroup b k x) := ⟨h.p, h.th, h.vars, h.atoms, h.locks, h.ch, by rw [show (YtogfcpaalcebdaaE.setGroup b k x).groups = b.groups.set k x from rfl, List.length_set]; exact h.groups, h.onces, h.tk, h.row, h.told⟩
theorem KpS.setOnce (h : KpS n a b) {k : Nat} {x : Int} : KpS n a (setOnce b k x) := ⟨h.p, h.th, h.vars, h.atoms, h.locks, h.ch, h.groups, by rw [show (YtogfcpaalcebdaaE.setOnce b k x).onces = b.onces.set k x from rfl, List.length_set]; exact h.onces, h.tk, h.row, h.told⟩
theorem KpS.setTrap (h : KpS n a b) {x : Bool} : KpS n a (setTrap b x) := ⟨h.p, h.th, h.vars, h.atoms, h.locks, h.ch, h.groups, h.onces, h.tk, h.row, h.told⟩
theorem KpS.setTold (h : KpS n a b) {l : List Int} (hl : l.length ≤ n) : KpS n a (setTold b l) := ⟨h.p, h.th, h.vars, h.atoms, h.locks, h.ch, h.groups, h.onces, h.tk, h.row, hl⟩
theorem KpS.setCh (h : KpS n a b) {k : Nat} {c : Ch} (hc : c.row.length ≤ n) : KpS n a (setCh b k c) := ⟨h.p, h.th, h.vars, h.atoms, h.locks, by rw [show (YtogfcpaalcebdaaE.setCh b k c).ch = b.ch.set k c from rfl, List.length_set]; exact h.ch, h.groups, h.onces, h.tk, fun d hd => by
    have hd : d ∈ b.ch.set k c := hd
    rcases List.mem_or_eq_of_mem_set hd with h1 | h1
    · exact h.row d h1
    · subst h1; exact hc, h.told⟩
theorem KpS.cAt (h : KpS n a b) (x : Int) : (chAt b.ch x).row.length ≤ n := by
  unfold chAt
  rw [List.getD_eq_getElem?_getD]
  cases he : b.ch[x.toNat]? with
  | none => exact Nat.zero_le _
  | some c => exact h.row c (List.mem_of_getElem? he)
theorem KpS.tAt (h : KpS n a b) {x : Int} (hx : x.toNat < a.th.length) : TOK a.p x.toNat (thAt b x) := by
  unfold thAt
  rw [List.getD_eq_getElem?_getD]
  have : x.toNat < b.th.length := by rw [h.th]; exact hx
  rw [List.getElem?_eq_getElem this]
  exact h.tk _ _ (List.getElem?_eq_getElem this)
theorem TOK.setR {p : Prg} {k : Nat} {t : Th} (h : TOK p k t) (r x : Int) : TOK p k (setR t r x) := ⟨by rw [setR_len]; exact h.1, h.2⟩
theorem takeC_k (h : KpS n a b) (i : Ins) (v md : Int) (ver : Nat) : KpS n a (takeC b i v md ver).1 := by
  unfold takeC
  have h1 := h.cAt i.b
  split
  · rename_i x r e
    rw [e] at h1
    exact h.setCh (by simp at h1 ⊢; omega)
  · split <;> exact h
theorem takeF_k (h : KpS n a b) {k : Nat} {t : Th} (ht : k < a.th.length → TOK a.p k t) (i : Ins) (v md : Int) (ver : Nat) : KpS n a (takeF b k t i v md ver).1 := by
  unfold takeF
  dsimp only
  split
  · exact h.setTh fun q => (ht q).setR _ _
  split
  · exact h.setAtom.setTh fun q => (ht q).setR _ _
  split
  · split
    · exact h.setOnce.setTh fun q => (ht q).setR _ _
    · exact h.setTh fun q => (ht q).setR _ _
  split
  · exact (takeC_k h i v md ver).setTh fun q => ((ht q).setR _ _).setR _ _
  · exact (takeC_k h i v md ver).setTh fun q => (ht q).setR _ _
theorem giveF_k (h : KpS n a b) (hr : ∀ x, (chAt b.ch x).row.length + 1 ≤ n) (t : Th) (i : Ins) (v : Int) (ver : Nat) : KpS n a (giveF b t i v ver).1 := by
  unfold giveF
  have h1 := h.cAt i.a
  have h2 := hr i.a
  dsimp only
  by_cases e1 : i.op = 12
  · rw [if_pos e1]
    exact h.setTh fun q => h.tAt q
  rw [if_neg e1]
  by_cases e2 : i.op = 13
  · rw [if_pos e2]
    exact h.setLock
  rw [if_neg e2]
  by_cases e3 : i.op = 15
  · rw [if_pos e3]
    exact h.setLock
  rw [if_neg e3]
  by_cases e4 : i.op = 14
  · rw [if_pos e4]
    split <;> first | exact h.setLock | exact h
  rw [if_neg e4]
  by_cases e5 : i.op = 16
  · rw [if_pos e5]
    split <;> first | exact h | exact h.setLock
  rw [if_neg e5]
  by_cases e6 : i.op = 18
  · rw [if_pos e6]
    exact h.setAtom
  rw [if_neg e6]
  by_cases e7 : i.op = 20
  · rw [if_pos e7]
    split <;> first | exact h | exact h.setCh (by rw [List.length_append, List.length_singleton]; exact h2)
  rw [if_neg e7]
  by_cases e8 : i.op = 23
  · rw [if_pos e8]
    exact h.setCh h1
  rw [if_neg e8]
  by_cases e9 : i.op = 24
  · rw [if_pos e9]
    split <;> first | exact h | exact h.setGroup
  rw [if_neg e9]
  by_cases e10 : i.op = 27
  · rw [if_pos e10]
    split <;> first | exact h | exact h.setOnce
  rw [if_neg e10]
  exact h
theorem ownF_ok {p : Prg} {k : Nat} {t t2 : Th} {i : Ins} (h : TOK p k t) (hi : ∀ c, p.code[k]? = some c → Reg4 c.length i) (e : ownF t i = some t2) : TOK p k t2 := by
  unfold ownF at e
  (repeat' split at e) <;> first
    | (cases e; exact h)
    | (cases e; exact ⟨by rw [List.length_set]; exact h.1, h.2⟩)
    | (cases e; exact ⟨h.1, fun c hc => (hi c hc).j (by assumption)⟩)
    | (cases e; exact ⟨h.1, fun c hc => (hi c hc).z (by assumption)⟩)
    | cases e
end
structure Bd (n : Nat) (σ : Sg) : Prop where
  w : WF σ
  cl : ∀ c ∈ σ.p.code, c.length < 1000000
  row : ∀ c ∈ σ.ch, c.row.length ≤ n
  told : σ.told.length ≤ n
theorem Bd.mono {n m : Nat} {σ : Sg} (h : Bd n σ) (hm : n ≤ m) : Bd m σ := ⟨h.w, h.cl, fun c hc => Nat.le_trans (h.row c hc) hm, Nat.le_trans h.told hm⟩
theorem Bd.refl {n : Nat} {σ : Sg} (h : Bd n σ) : KpS n σ σ := ⟨rfl, rfl, rfl, rfl, rfl, rfl, rfl, rfl, fun k t hk => ⟨h.w.regs k t hk, fun c hc => h.w.at_ k t c hk hc⟩, h.row, h.told⟩
theorem KpS.bd {n : Nat} {a b : Sg} (h : KpS n a b) (ha : WF a) (hc : ∀ c ∈ a.p.code, c.length < 1000000) : Bd n b where
  w := {
    len := by rw [h.th, h.p]; exact ha.len
    lch := by rw [h.ch, h.p]; exact ha.lch
    at_ := fun k t c hk hc => (h.tk k t hk).2 c (by rw [← h.p]; exact hc)
    regs := fun k t hk => (h.tk k t hk).1
    fit := fun c hc i hi => by
      have q := ha.fit c (by rw [← h.p]; exact hc) i hi
      exact ⟨by rw [h.locks]; exact q.l, by rw [h.ch, h.p]; exact q.s, by rw [h.ch]; exact q.r, by rw [h.groups]; exact q.g, by rw [h.onces]; exact q.o, by rw [h.onces]; exact q.e⟩
    fit2 := fun c hc i hi => by
      have q := ha.fit2 c (by rw [← h.p]; exact hc) i hi
      exact ⟨by rw [h.vars]; exact q.v, by rw [h.vars]; exact q.w, by rw [h.atoms]; exact q.m, by rw [h.atoms]; exact q.n, by rw [h.th]; exact q.t⟩
    reg := fun c hc i hi => ha.reg c (by rw [← h.p]; exact hc) i hi }
  cl := fun c hc2 => hc c (by rw [← h.p]; exact hc2)
  row := h.row
  told := h.told
theorem goF_k {n : Nat} {σ : Sg} {k : Int} {ver : Nat} (h : Bd n σ) (hc : can σ k = true) : KpS (n + 1) σ (goF σ k ver).1 := by
  unfold can at hc
  split at hc
  case isFalse => cases hc
  rename_i hk
  have hkr : inR k σ.th.length := hk
  have hkl : k.toNat < σ.th.length := by have := hk.1; have := hk.2; omega
  have he : endd σ k = false := by
    cases e : endd σ k with
    | false => rfl
    | true => rw [e] at hc; revert hc; cases σ.trapped <;> cases (thAt σ k).began <;> simp
  obtain ⟨i1, i2, i3⟩ := h.w.ins hkr he
  have hreg := h.w.reg _ i3 _ i2
  obtain ⟨a0, a1⟩ := h.w.at0 hkr
  have hlen := h.cl _ i3
  simp only [endd, decide_eq_false_iff_not, Int.not_le] at he
  have hwr : IntKind.i64.wrap ((thAt σ k).at_ + 1) = (thAt σ k).at_ + 1 := wrap_small (by omega) (by omega)
  have hcode := codeAt_get (h.w.code hkr)
  have r0 := h.refl
  have t0 := r0.tAt hkl
  have t1 : TOK σ.p k.toNat (adv1 (thAt σ k)) := ⟨t0.1, fun c hc => by
    rw [hcode] at hc
    cases hc
    unfold adv1
    dsimp only
    rw [hwr]
    omega⟩
  have hmono : KpS (n + 1) σ σ := (h.mono (Nat.le_succ n)).refl
  have s1 : KpS (n + 1) σ (setTh σ k.toNat (adv1 (thAt σ k))) := hmono.setTh fun _ => t1
  have hr : ∀ x, (chAt (setTh σ k.toNat (adv1 (thAt σ k))).ch x).row.length + 1 ≤ n + 1 := fun x => Nat.succ_le_succ (r0.cAt x)
  unfold goF
  dsimp only
  split
  · rename_i t2 e
    exact s1.setTh fun _ => ownF_ok t1 (fun c hc => by rw [hcode] at hc; cases hc; exact hreg) e
  split
  · exact s1.setTh fun _ => t1.setR _ _
  split
  · exact s1.setVar
  split
  · exact s1.setTold (by rw [List.length_append, List.length_singleton]; have := h.told; omega)
  split
  · exact takeF_k s1 (fun _ => t1) _ _ _ _
  · exact (giveF_k s1 hr _ _ _ _).setTrap
theorem next_k {n : Nat} {σ : Sg} {k : Int} {ver : Nat} (h : Bd n σ) : KpS (n + 1) σ (nextF σ k ver).1 := by
  unfold nextF
  split
  · rename_i hc
    exact goF_k h hc
  · exact (h.mono (Nat.le_succ n)).refl
theorem next_bd {n : Nat} {σ : Sg} {k : Int} {ver : Nat} (h : Bd n σ) : Bd (n + 1) (nextF σ k ver).1 := (next_k h).bd h.w h.cl
inductive Rch (p : Prg) : Nat → Sg → Prop
  | init : Rch p 0 (initS p)
  | step {n : Nat} {σ : Sg} (k : Int) (ver : Nat) (h : Rch p n σ) : Rch p (n + 1) (nextF σ k ver).1
theorem Rch.bd {p : Prg} (h0 : Bd 0 (initS p)) : ∀ {n : Nat} {σ : Sg}, Rch p n σ → Bd n σ ∧ KpS n (initS p) σ
  | _, _, .init => ⟨h0, h0.refl⟩
  | _, _, .step k ver h => by
    obtain ⟨h1, h2⟩ := h.bd h0
    have h3 := next_k (k := k) (ver := ver) h1
    refine ⟨next_bd h1, h3.p.trans h2.p, h3.th.trans h2.th, h3.vars.trans h2.vars, h3.atoms.trans h2.atoms, h3.locks.trans h2.locks, h3.ch.trans h2.ch, h3.groups.trans h2.groups, h3.onces.trans h2.onces, fun k t hk => ?_, h3.row, h3.told⟩
    have := h3.tk k t hk
    rwa [h2.p] at this
end Go.Proofs.YtogfcpaalcebdaaE
/- A program that may be begins with a state that may be. -/
namespace Go.Proofs.YtogfcpaalcebdaaE
open Go Go.RowKit
set_option linter.unusedVariables false
set_option linter.unusedSimpArgs false
set_option maxRecDepth 1000000
theorem insF_in {l : List (Int × Int)} {i : Ins} (h : insF l i = 0) : insA l (shAt i.op).a i.a = false ∧ insA l (shAt i.op).b i.b = false ∧ insA l (shAt i.op).c i.c = false := by
  unfold insF at h
  split at h
  · cases h
  · split at h
    · cases h
    · rename_i h2
      simp only [Bool.or_eq_true, not_or, Bool.not_eq_true] at h2
      exact ⟨h2.1.1, h2.1.2, h2.2⟩
theorem insA_in {l : List (Int × Int)} {w n m : Int} (h : insA l w n = false) (hm : mget l w = some m) : 0 ≤ n ∧ n < m := by
  unfold insA at h
  rw [hm] at h
  simp at h
  omega
theorem codeF_in {l : List (Int × Int)} : ∀ {c : List Ins}, codeF l c = 0 → ∀ i ∈ c, insF l i = 0
  | [], _, i, hi => by cases hi
  | j :: r, h, i, hi => by
    unfold codeF at h
    split at h
    · rename_i h1
      rcases List.mem_cons.1 hi with rfl | hi
      · exact h1
      · exact codeF_in h i hi
    · rename_i h1; exact absurd h h1
theorem codesF_in {p : Prg} : ∀ {l : List (List Ins)}, codesF p l = 0 → ∀ c ∈ l, codeF (limF p c.length) c = 0
  | [], _, i, hi => by cases hi
  | j :: r, h, i, hi => by
    unfold codesF at h
    split at h
    · rename_i h1
      rcases List.mem_cons.1 hi with rfl | hi
      · exact h1
      · exact codesF_in h i hi
    · rename_i h1; exact absurd h h1
theorem wr60 {n : Nat} (h : n ≤ 60) : IntKind.i64.wrap ((n : Int) + 1) = (n : Int) + 1 := wrap_small (by omega) (by omega)
theorem init_th (p : Prg) (k : Nat) (t : Th) (h : (initS p).th[k]? = some t) : t.regs.length = 4 ∧ t.at_ = 0 := by
  have h : ((List.replicate p.code.length th0).set 0 { th0 with began := true })[k]? = some t := h
  have := List.mem_of_getElem? h
  rcases List.mem_or_eq_of_mem_set this with h1 | h1
  · rw [List.eq_of_mem_replicate h1]; exact ⟨rfl, rfl⟩
  · subst h1; exact ⟨rfl, rfl⟩
theorem init_bd {p : Prg} (h : soundF p = 0) : Bd 0 (initS p) := by
  obtain ⟨v1, a1, l1, g1, o1, c1, k1, ln, cs, hc⟩ := sound_in h
  have hin : ∀ c ∈ p.code, ∀ i ∈ c, insF (limF p c.length) i = 0 := fun c h1 i h2 => codeF_in (codesF_in hc c h1) i h2
  have e1 : (initS p).th.length = p.code.length := by simp [initS, initS0, setTh]
  have e2 : (initS p).vars.length = p.vars.toNat := by simp [initS, initS0, setTh]
  have e3 : (initS p).atoms.length = p.atoms.toNat := by simp [initS, initS0, setTh]
  have e4 : (initS p).locks.length = p.locks.toNat := by simp [initS, initS0, setTh]
  have e5 : (initS p).ch.length = p.chans.length := by simp [initS, initS0, setTh]
  have e6 : (initS p).groups.length = p.groups.toNat := by simp [initS, initS0, setTh]
  have e7 : (initS p).onces.length = p.onces.toNat := by simp [initS, initS0, setTh]
  have ep : (initS p).p = p := rfl
  refine ⟨⟨by rw [e1, ep], by rw [e5, ep], fun k t c h1 h2 => ?_, fun k t h1 => (init_th p k t h1).1, fun c hc2 i hi => ?_, fun c hc2 i hi => ?_, fun c hc2 i hi => ?_⟩, fun c hc2 => ?_, fun c hc2 => ?_, Nat.le_refl _⟩
  · rw [(init_th p k t h1).2]; omega
  · obtain ⟨ha, hb, hcc⟩ := insF_in (hin c hc2 i hi)
    refine ⟨(fun h => by
        have e : (shAt i.op).a = 7 := by rcases h with h | h | h | h <;> rw [h] <;> rfl
        rw [e] at ha
        have q := insA_in ha (m := p.locks) rfl
        exact ⟨q.1, by rw [e4]; omega⟩),
      (fun h => by
        have e : (shAt i.op).a = 9 := by rcases h with h | h <;> rw [h] <;> rfl
        rw [e] at ha
        have q := insA_in ha (m := p.chans.length) rfl
        exact ⟨⟨q.1, by rw [e5]; exact q.2⟩, ⟨q.1, q.2⟩⟩),
      (fun h => by
        have e : (shAt i.op).b = 9 := by rcases h with h | h <;> rw [h] <;> rfl
        rw [e] at hb
        have q := insA_in hb (m := p.chans.length) rfl
        exact ⟨q.1, by rw [e5]; omega⟩),
      (fun h => by
        have e : (shAt i.op).a = 10 := by rcases h with h | h <;> rw [h] <;> rfl
        rw [e] at ha
        have q := insA_in ha (m := p.groups) rfl
        exact ⟨q.1, by rw [e6]; omega⟩),
      (fun h => by
        have e : (shAt i.op).b = 11 := by rw [h]; rfl
        rw [e] at hb
        have q := insA_in hb (m := p.onces) rfl
        exact ⟨q.1, by rw [e7]; omega⟩),
      (fun h => by
        have e : (shAt i.op).a = 11 := by rw [h]; rfl
        rw [e] at ha
        have q := insA_in ha (m := p.onces) rfl
        exact ⟨q.1, by rw [e7]; omega⟩)⟩
  · obtain ⟨ha, hb, hcc⟩ := insF_in (hin c hc2 i hi)
    refine ⟨(fun h => by
        have e : (shAt i.op).b = 4 := by rw [h]; rfl
        rw [e] at hb
        have q := insA_in hb (m := p.vars) rfl
        exact ⟨q.1, by rw [e2]; omega⟩),
      (fun h => by
        have e : (shAt i.op).a = 4 := by rw [h]; rfl
        rw [e] at ha
        have q := insA_in ha (m := p.vars) rfl
        exact ⟨q.1, by rw [e2]; omega⟩),
      (fun h => by
        have e : (shAt i.op).b = 8 := by rcases h with h | h <;> rw [h] <;> rfl
        rw [e] at hb
        have q := insA_in hb (m := p.atoms) rfl
        exact ⟨q.1, by rw [e3]; omega⟩),
      (fun h => by
        have e : (shAt i.op).a = 8 := by rw [h]; rfl
        rw [e] at ha
        have q := insA_in ha (m := p.atoms) rfl
        exact ⟨q.1, by rw [e3]; omega⟩),
      (fun h => by
        have e : (shAt i.op).a = 6 := by rw [h]; rfl
        rw [e] at ha
        have q := insA_in ha (m := p.code.length) rfl
        exact ⟨q.1, by rw [e1]; omega⟩)⟩
  · obtain ⟨ha, hb, hcc⟩ := insF_in (hin c hc2 i hi)
    have hw := wr60 (ln c hc2)
    refine ⟨(fun h => by
        have e : (shAt i.op).a = 2 ∨ (shAt i.op).a = 3 := by rcases h with h | h | h | h | h | h | h | h | h | h | h | h | h | h <;> rw [h] <;> first | exact .inl rfl | exact .inr rfl
        rcases e with e | e <;> (rw [e] at ha; exact insA_in ha (m := 4) rfl)),
      (fun h => by
        have e : (shAt i.op).b = 2 ∨ (shAt i.op).b = 3 := by rcases h with h | h | h | h | h | h | h | h <;> rw [h] <;> first | exact .inl rfl | exact .inr rfl
        rcases e with e | e <;> (rw [e] at hb; exact insA_in hb (m := 4) rfl)),
      (fun h => by
        have e : (shAt i.op).c = 2 ∨ (shAt i.op).c = 3 := by rcases h with h | h | h | h | h | h <;> rw [h] <;> first | exact .inl rfl | exact .inr rfl
        rcases e with e | e <;> (rw [e] at hcc; exact insA_in hcc (m := 4) rfl)),
      (fun h => by
        have e : (shAt i.op).a = 5 := by rw [h]; rfl
        rw [e] at ha
        have q := insA_in ha (m := IntKind.i64.wrap ((c.length : Int) + 1)) rfl
        rw [hw] at q; exact ⟨q.1, by omega⟩),
      (fun h => by
        have e : (shAt i.op).b = 5 := by rw [h]; rfl
        rw [e] at hb
        have q := insA_in hb (m := IntKind.i64.wrap ((c.length : Int) + 1)) rfl
        rw [hw] at q; exact ⟨q.1, by omega⟩)⟩
  · have := ln c hc2; omega
  · have h1 : c ∈ List.replicate p.chans.length (⟨[], 0, false⟩ : Ch) := hc2
    rw [List.eq_of_mem_replicate h1]
    exact Nat.le_refl _
end Go.Proofs.YtogfcpaalcebdaaE
