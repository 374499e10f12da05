/- Boxes behind a state. -/
import Derived.Test.YtogfcpaalcebdaaCEState2
namespace Go.Proofs.YtogfcpaalcebdaaE
open Go Go.RowKit
set_option linter.unusedVariables false
section
variable {σ : Sg} {e : Mem2} {cs : List V} {t : TypeId} {off : Nat} {x : V}
theorem set_9 {b : Option Ob} {y : Option Ob} : (M σ (b :: e)).set 9 y = M σ (y :: e) := rfl
theorem ld_9 : aLoad tab (M σ (some (.box cs) :: e)) t (.ptr 9 0 off) = match look tab t with
    | some i => (match i.ag with
      | true => (match getN (M σ (some (.box cs) :: e)) 9 0 off i.n with
        | some l => some (.agg l)
        | none => none)
      | false => cs[off]?)
    | none => none := rfl
theorem g1_9 : get1 (M σ (some (.box cs) :: e)) 9 0 off = cs[off]? := rfl
theorem st_9 : aStore tab (M σ (some (.box cs) :: e)) t (.ptr 9 0 off) x = match look tab t with
    | some i => (match cellsV x with
      | some xs => bif Nat.beq xs.length i.n then storeN (M σ (some (.box cs) :: e)) 9 0 off xs else none
      | none => none)
    | none => none := rfl
theorem s1_9 : store1 (M σ (some (.box cs) :: e)) 9 0 off x = bif Nat.blt off cs.length then some (M σ (some (.box (cs.set off x)) :: e)) else none := rfl
theorem set_10 {b0 : Option Ob} {b : Option Ob} {y : Option Ob} : (M σ (b0 :: b :: e)).set 10 y = M σ (b0 :: y :: e) := rfl
theorem ld_10 {b0 : Option Ob} : aLoad tab (M σ (b0 :: some (.box cs) :: e)) t (.ptr 10 0 off) = match look tab t with
    | some i => (match i.ag with
      | true => (match getN (M σ (b0 :: some (.box cs) :: e)) 10 0 off i.n with
        | some l => some (.agg l)
        | none => none)
      | false => cs[off]?)
    | none => none := rfl
theorem g1_10 {b0 : Option Ob} : get1 (M σ (b0 :: some (.box cs) :: e)) 10 0 off = cs[off]? := rfl
theorem st_10 {b0 : Option Ob} : aStore tab (M σ (b0 :: some (.box cs) :: e)) t (.ptr 10 0 off) x = match look tab t with
    | some i => (match cellsV x with
      | some xs => bif Nat.beq xs.length i.n then storeN (M σ (b0 :: some (.box cs) :: e)) 10 0 off xs else none
      | none => none)
    | none => none := rfl
theorem s1_10 {b0 : Option Ob} : store1 (M σ (b0 :: some (.box cs) :: e)) 10 0 off x = bif Nat.blt off cs.length then some (M σ (b0 :: some (.box (cs.set off x)) :: e)) else none := rfl
theorem set_11 {b0 b1 : Option Ob} {b : Option Ob} {y : Option Ob} : (M σ (b0 :: b1 :: b :: e)).set 11 y = M σ (b0 :: b1 :: y :: e) := rfl
theorem ld_11 {b0 b1 : Option Ob} : aLoad tab (M σ (b0 :: b1 :: some (.box cs) :: e)) t (.ptr 11 0 off) = match look tab t with
    | some i => (match i.ag with
      | true => (match getN (M σ (b0 :: b1 :: some (.box cs) :: e)) 11 0 off i.n with
        | some l => some (.agg l)
        | none => none)
      | false => cs[off]?)
    | none => none := rfl
theorem g1_11 {b0 b1 : Option Ob} : get1 (M σ (b0 :: b1 :: some (.box cs) :: e)) 11 0 off = cs[off]? := rfl
theorem st_11 {b0 b1 : Option Ob} : aStore tab (M σ (b0 :: b1 :: some (.box cs) :: e)) t (.ptr 11 0 off) x = match look tab t with
    | some i => (match cellsV x with
      | some xs => bif Nat.beq xs.length i.n then storeN (M σ (b0 :: b1 :: some (.box cs) :: e)) 11 0 off xs else none
      | none => none)
    | none => none := rfl
theorem s1_11 {b0 b1 : Option Ob} : store1 (M σ (b0 :: b1 :: some (.box cs) :: e)) 11 0 off x = bif Nat.blt off cs.length then some (M σ (b0 :: b1 :: some (.box (cs.set off x)) :: e)) else none := rfl
theorem set_12 {b0 b1 b2 : Option Ob} {b : Option Ob} {y : Option Ob} : (M σ (b0 :: b1 :: b2 :: b :: e)).set 12 y = M σ (b0 :: b1 :: b2 :: y :: e) := rfl
theorem ld_12 {b0 b1 b2 : Option Ob} : aLoad tab (M σ (b0 :: b1 :: b2 :: some (.box cs) :: e)) t (.ptr 12 0 off) = match look tab t with
    | some i => (match i.ag with
      | true => (match getN (M σ (b0 :: b1 :: b2 :: some (.box cs) :: e)) 12 0 off i.n with
        | some l => some (.agg l)
        | none => none)
      | false => cs[off]?)
    | none => none := rfl
theorem g1_12 {b0 b1 b2 : Option Ob} : get1 (M σ (b0 :: b1 :: b2 :: some (.box cs) :: e)) 12 0 off = cs[off]? := rfl
theorem st_12 {b0 b1 b2 : Option Ob} : aStore tab (M σ (b0 :: b1 :: b2 :: some (.box cs) :: e)) t (.ptr 12 0 off) x = match look tab t with
    | some i => (match cellsV x with
      | some xs => bif Nat.beq xs.length i.n then storeN (M σ (b0 :: b1 :: b2 :: some (.box cs) :: e)) 12 0 off xs else none
      | none => none)
    | none => none := rfl
theorem s1_12 {b0 b1 b2 : Option Ob} : store1 (M σ (b0 :: b1 :: b2 :: some (.box cs) :: e)) 12 0 off x = bif Nat.blt off cs.length then some (M σ (b0 :: b1 :: b2 :: some (.box (cs.set off x)) :: e)) else none := rfl
theorem set_13 {b0 b1 b2 b3 : Option Ob} {b : Option Ob} {y : Option Ob} : (M σ (b0 :: b1 :: b2 :: b3 :: b :: e)).set 13 y = M σ (b0 :: b1 :: b2 :: b3 :: y :: e) := rfl
theorem ld_13 {b0 b1 b2 b3 : Option Ob} : aLoad tab (M σ (b0 :: b1 :: b2 :: b3 :: some (.box cs) :: e)) t (.ptr 13 0 off) = match look tab t with
    | some i => (match i.ag with
      | true => (match getN (M σ (b0 :: b1 :: b2 :: b3 :: some (.box cs) :: e)) 13 0 off i.n with
        | some l => some (.agg l)
        | none => none)
      | false => cs[off]?)
    | none => none := rfl
theorem g1_13 {b0 b1 b2 b3 : Option Ob} : get1 (M σ (b0 :: b1 :: b2 :: b3 :: some (.box cs) :: e)) 13 0 off = cs[off]? := rfl
theorem st_13 {b0 b1 b2 b3 : Option Ob} : aStore tab (M σ (b0 :: b1 :: b2 :: b3 :: some (.box cs) :: e)) t (.ptr 13 0 off) x = match look tab t with
    | some i => (match cellsV x with
      | some xs => bif Nat.beq xs.length i.n then storeN (M σ (b0 :: b1 :: b2 :: b3 :: some (.box cs) :: e)) 13 0 off xs else none
      | none => none)
    | none => none := rfl
theorem s1_13 {b0 b1 b2 b3 : Option Ob} : store1 (M σ (b0 :: b1 :: b2 :: b3 :: some (.box cs) :: e)) 13 0 off x = bif Nat.blt off cs.length then some (M σ (b0 :: b1 :: b2 :: b3 :: some (.box (cs.set off x)) :: e)) else none := rfl
theorem set_14 {b0 b1 b2 b3 b4 : Option Ob} {b : Option Ob} {y : Option Ob} : (M σ (b0 :: b1 :: b2 :: b3 :: b4 :: b :: e)).set 14 y = M σ (b0 :: b1 :: b2 :: b3 :: b4 :: y :: e) := rfl
theorem ld_14 {b0 b1 b2 b3 b4 : Option Ob} : aLoad tab (M σ (b0 :: b1 :: b2 :: b3 :: b4 :: some (.box cs) :: e)) t (.ptr 14 0 off) = match look tab t with
    | some i => (match i.ag with
      | true => (match getN (M σ (b0 :: b1 :: b2 :: b3 :: b4 :: some (.box cs) :: e)) 14 0 off i.n with
        | some l => some (.agg l)
        | none => none)
      | false => cs[off]?)
    | none => none := rfl
theorem g1_14 {b0 b1 b2 b3 b4 : Option Ob} : get1 (M σ (b0 :: b1 :: b2 :: b3 :: b4 :: some (.box cs) :: e)) 14 0 off = cs[off]? := rfl
theorem st_14 {b0 b1 b2 b3 b4 : Option Ob} : aStore tab (M σ (b0 :: b1 :: b2 :: b3 :: b4 :: some (.box cs) :: e)) t (.ptr 14 0 off) x = match look tab t with
    | some i => (match cellsV x with
      | some xs => bif Nat.beq xs.length i.n then storeN (M σ (b0 :: b1 :: b2 :: b3 :: b4 :: some (.box cs) :: e)) 14 0 off xs else none
      | none => none)
    | none => none := rfl
theorem s1_14 {b0 b1 b2 b3 b4 : Option Ob} : store1 (M σ (b0 :: b1 :: b2 :: b3 :: b4 :: some (.box cs) :: e)) 14 0 off x = bif Nat.blt off cs.length then some (M σ (b0 :: b1 :: b2 :: b3 :: b4 :: some (.box (cs.set off x)) :: e)) else none := rfl
theorem endA_r9 {E : Env} {A : Nat → V} {rs : List ResultVar} {Post : V → List (Option Ob) → Prop} {y z : V} (h : resA E.T rs ⟨A, M σ e⟩ = some y) (h4 : ren (fun id => posOf id L9) y = some z) (hp : Post z (M σ [])) : endA E 9 [] rs Post .ret ⟨A, M σ e⟩ := endA_rL L9 h rfl rfl foot9 h4 hp
theorem endA_n9 {E : Env} {A : Nat → V} {rs : List ResultVar} {Post : V → List (Option Ob) → Prop} {y z : V} (h : resA E.T rs ⟨A, M σ e⟩ = some y) (h4 : ren (fun id => posOf id L9) y = some z) (hp : Post z (M σ [])) : endA E 9 [] rs Post .normal ⟨A, M σ e⟩ := endA_nL L9 h rfl rfl foot9 h4 hp
end
end Go.Proofs.YtogfcpaalcebdaaE
/- What `simp` may use of the engine's rules. -/
namespace Go.Proofs.YtogfcpaalcebdaaE
open Go Go.RowKit
attribute [simp] wl_pick wl_move wl_assign wl_build wl_nil wl_bin wl_un wl_conv wl_slice wl_fa wl_fl wl_ia wl_ix wl_ext wl_len wl_min wl_max wl_load wl_call wl_g wl_end wl_call0
attribute [simp] wr_pick wr_move wr_assign wr_build wr_nil wr_bin wr_un wr_conv wr_slice wr_fa wr_fl wr_ia wr_ix wr_ext wr_len wr_min wr_max wr_load wr_call wr_g wr_end
attribute [simp] WV_some WV_ite WS_some WG_tt WG_ff WG_tf WG_ft RV_some RV_ite RS_some RG_tt RG_ff RG_tf RG_ft blt_dec ble_dec beq_dec
attribute [simp] up_get needs need pad St.mem ev ofV ofCell nilS Plain pPick pBin intBin pNil pUn pFieldAddr pField pPart guardV numb lowB pLen bo nu
attribute [simp] M_len M_app rd_0 rd_1 rd_2 rd_3 rd_6 rd_7 rd_8 rd_9 rd_10 rd_11 rd_12 rd_13 rd_14 rd_15 rd_began rd_at rd_reg rd_var rd_atom rd_lock rd_group rd_once rd_row rd_closed rd_chan rd_rowc ia_th ia_int ia_ch ia_rw ia_code ia_ins ia_ints ia_regs fa_state ld_code ld_ins ld_int
attribute [simp] lk1 lk2 lk3 lk4 lk5 lk6 lk7 lk8 lk9 lk10 lk11 lk12 lk22 lk23 lk24 lk26 lk28 lk29 lk31 lk32 lk33 lk36 lk41 lk45 lk54 lk56 lk60 lk61 lk63 lk65 lk67 lk79 lk80 lk82 lk83 lk85 lk94 lk96 lk100 lk103 lk117 lk118 lk120 lk123 ti1 ti2 ti3 ti4 ti5 ti6 ti7 ti8 ti9 ti10 ti11 ti12 ti22 ti23 ti24 ti26 ti28 ti29 ti31 ti32 ti33 ti36 ti41 ti45 ti54 ti56 ti60 ti61 ti63 ti65 ti67 ti79 ti80 ti82 ti83 ti85 ti94 ti96 ti100 ti103 ti117 ti118 ti120 ti123
attribute [simp] set_9 ld_9 g1_9 st_9 s1_9 set_10 ld_10 g1_10 st_10 s1_10 set_11 ld_11 g1_11 st_11 s1_11 set_12 ld_12 g1_12 st_12 s1_12 set_13 ld_13 g1_13 st_13 s1_13 set_14 ld_14 g1_14 st_14 s1_14 Value.cells getN storeN cellsV zerosV List.replicate List.getElem?_cons_succ
end Go.Proofs.YtogfcpaalcebdaaE
/- What the program's step does, as a plain function. -/
namespace Go.Proofs.YtogfcpaalcebdaaE
open Go Go.RowKit
set_option linter.unusedVariables false
set_option linter.unusedSimpArgs false
def at0 (l : List Int) (n : Int) : Int := l.getD n.toNat 0
def inR (n : Int) (k : Nat) : Prop := 0 ≤ n ∧ n < (k : Int)
theorem at0_get {l : List Int} {n : Int} (h : inR n l.length) : l[n.toNat]? = some (at0 l n) := by
  obtain ⟨h1, h2⟩ := h
  have : n.toNat < l.length := by omega
  simp [at0, this]
instance : Inhabited Ch := ⟨⟨[], 0, false⟩⟩
instance : Inhabited Th := ⟨⟨false, 0, []⟩⟩
def chAt (l : List Ch) (n : Int) : Ch := l.getD n.toNat default
theorem chAt_get {l : List Ch} {n : Int} (h : inR n l.length) : l[n.toNat]? = some (chAt l n) := by
  obtain ⟨h1, h2⟩ := h
  have : n.toNat < l.length := by omega
  simp [chAt, this]
def blk (σ : Sg) (i : Ins) : Bool :=
  if i.op = 13 then at0 σ.locks i.a != 0
  else if i.op = 15 then at0 σ.locks i.a == -1
  else if i.op = 20 then (if (chAt σ.ch i.a).closed then false else ((chAt σ.ch i.a).row.length : Int) == at0 σ.p.chans i.a)
  else if i.op = 21 then (if (chAt σ.ch i.b).closed then false else ((chAt σ.ch i.b).row.length : Int) == 0)
  else if i.op = 25 then decide (at0 σ.groups i.a > 0)
  else if i.op = 26 then at0 σ.onces i.b == 1
  else false
structure Fit (σ : Sg) (i : Ins) : Prop where
  l : (i.op = 13 ∨ i.op = 14 ∨ i.op = 15 ∨ i.op = 16) → inR i.a σ.locks.length
  s : (i.op = 20 ∨ i.op = 23) → inR i.a σ.ch.length ∧ inR i.a σ.p.chans.length
  r : (i.op = 21 ∨ i.op = 22) → inR i.b σ.ch.length
  g : (i.op = 24 ∨ i.op = 25) → inR i.a σ.groups.length
  o : i.op = 26 → inR i.b σ.onces.length
  e : i.op = 27 → inR i.a σ.onces.length
def thAt (σ : Sg) (k : Int) : Th := σ.th.getD k.toNat default
def codeAt (σ : Sg) (k : Int) : List Ins := σ.p.code.getD k.toNat []
instance : Inhabited Ins := ⟨⟨0, 0, 0, 0⟩⟩
def insAt (σ : Sg) (k : Int) : Ins := (codeAt σ k).getD (thAt σ k).at_.toNat default
theorem thAt_get {σ : Sg} {k : Int} (h : inR k σ.th.length) : σ.th[k.toNat]? = some (thAt σ k) := by
  obtain ⟨h1, h2⟩ := h
  have : k.toNat < σ.th.length := by omega
  simp [thAt, this]
theorem codeAt_get {σ : Sg} {k : Int} (h : inR k σ.p.code.length) : σ.p.code[k.toNat]? = some (codeAt σ k) := by
  obtain ⟨h1, h2⟩ := h
  have : k.toNat < σ.p.code.length := by omega
  simp [codeAt, this]
structure Reg4 (n : Int) (i : Ins) : Prop where
  a : (i.op = 1 ∨ i.op = 2 ∨ i.op = 3 ∨ i.op = 4 ∨ i.op = 5 ∨ i.op = 6 ∨ i.op = 7 ∨ i.op = 9 ∨ i.op = 11 ∨ i.op = 17 ∨ i.op = 19 ∨ i.op = 21 ∨ i.op = 22 ∨ i.op = 26) → 0 ≤ i.a ∧ i.a < 4
  b : (i.op = 2 ∨ i.op = 3 ∨ i.op = 4 ∨ i.op = 5 ∨ i.op = 6 ∨ i.op = 8 ∨ i.op = 18 ∨ i.op = 20) → 0 ≤ i.b ∧ i.b < 4
  c : (i.op = 3 ∨ i.op = 4 ∨ i.op = 5 ∨ i.op = 6 ∨ i.op = 19 ∨ i.op = 22) → 0 ≤ i.c ∧ i.c < 4
  j : i.op = 10 → 0 ≤ i.a ∧ i.a ≤ n
  z : i.op = 11 → 0 ≤ i.b ∧ i.b ≤ n
structure Fit2 (σ : Sg) (i : Ins) : Prop where
  v : i.op = 7 → inR i.b σ.vars.length
  w : i.op = 8 → inR i.a σ.vars.length
  m : (i.op = 17 ∨ i.op = 19) → inR i.b σ.atoms.length
  n : i.op = 18 → inR i.a σ.atoms.length
  t : i.op = 12 → inR i.a σ.th.length
structure WF (σ : Sg) : Prop where
  len : σ.th.length = σ.p.code.length
  lch : σ.ch.length = σ.p.chans.length
  at_ : ∀ (k : Nat) t c, σ.th[k]? = some t → σ.p.code[k]? = some c → 0 ≤ t.at_ ∧ t.at_ ≤ (c.length : Int)
  regs : ∀ (k : Nat) t, σ.th[k]? = some t → t.regs.length = 4
  fit : ∀ c ∈ σ.p.code, ∀ i ∈ c, Fit σ i
  fit2 : ∀ c ∈ σ.p.code, ∀ i ∈ c, Fit2 σ i
  reg : ∀ c ∈ σ.p.code, ∀ i ∈ c, Reg4 c.length i
def endd (σ : Sg) (k : Int) : Bool := decide (((codeAt σ k).length : Int) ≤ (thAt σ k).at_)
def can (σ : Sg) (k : Int) : Bool :=
  if 0 ≤ k ∧ k < (σ.th.length : Int) then (if σ.trapped then false else if (thAt σ k).began then (if endd σ k then false else !(blk σ (insAt σ k))) else false) else false
theorem WF.code {σ : Sg} (h : WF σ) {k : Int} (hk : inR k σ.th.length) : inR k σ.p.code.length := by rw [← h.len]; exact hk
theorem WF.at0 {σ : Sg} (h : WF σ) {k : Int} (hk : inR k σ.th.length) : 0 ≤ (thAt σ k).at_ ∧ (thAt σ k).at_ ≤ ((codeAt σ k).length : Int) := h.at_ _ _ _ (thAt_get hk) (codeAt_get (h.code hk))
theorem WF.ins {σ : Sg} (h : WF σ) {k : Int} (hk : inR k σ.th.length) (he : endd σ k = false) : (codeAt σ k)[(thAt σ k).at_.toNat]? = some (insAt σ k) ∧ insAt σ k ∈ codeAt σ k ∧ codeAt σ k ∈ σ.p.code := by
  have h0 := h.at0 hk
  simp only [endd, decide_eq_false_iff_not, Int.not_le] at he
  have hlt : (thAt σ k).at_.toNat < (codeAt σ k).length := by omega
  have e : (codeAt σ k)[(thAt σ k).at_.toNat]? = some (insAt σ k) := by simp [insAt, hlt]
  exact ⟨e, List.mem_of_getElem? e, List.mem_of_getElem? (codeAt_get (h.code hk))⟩
end Go.Proofs.YtogfcpaalcebdaaE
/- A program's state: what is written there. -/
namespace Go.Proofs.YtogfcpaalcebdaaE
open Go Go.RowKit
set_option linter.unusedVariables false
set_option linter.unusedSimpArgs false
def setTh (σ : Sg) (k : Nat) (t : Th) : Sg := { σ with th := σ.th.set k t }
def setVar (σ : Sg) (k : Nat) (x : Int) : Sg := { σ with vars := σ.vars.set k x }
def setAtom (σ : Sg) (k : Nat) (x : Int) : Sg := { σ with atoms := σ.atoms.set k x }
def setLock (σ : Sg) (k : Nat) (x : Int) : Sg := { σ with locks := σ.locks.set k x }
def setCh (σ : Sg) (k : Nat) (c : Ch) : Sg := { σ with ch := σ.ch.set k c }
def setGroup (σ : Sg) (k : Nat) (x : Int) : Sg := { σ with groups := σ.groups.set k x }
def setOnce (σ : Sg) (k : Nat) (x : Int) : Sg := { σ with onces := σ.onces.set k x }
def setTrap (σ : Sg) (b : Bool) : Sg := { σ with trapped := b }
section
variable {σ : Sg} {ext : Mem2}
theorem stA {t : TypeId} {i : TI} {m m' : Mem2} {id k off : Nat} {v : V} (hl : look tab t = some i) (hn : i.n = 1) (hc : cellsV v = some [v]) (h : store1 m id k off v = some m') : aStore tab m t (.ptr id k off) v = some m' := by
  unfold aStore
  rw [hl, hc]
  dsimp only
  rw [hn]
  show storeN m id k off [v] = _
  unfold storeN
  rw [h]
  rfl
theorem st_thc {k off : Nat} {t t' : Th} {c : C} (h : σ.th[k]? = some t) (ho : off < t.enc.length) (he : t.enc.set off c = t'.enc) : store1 (M σ ext) 1 k off (.c c) = some (M (setTh σ k t') ext) := by
  unfold store1
  rw [show obGet (M σ ext) 1 = some (.arr 6 (σ.th.map Th.enc)) from rfl]
  simp only [toC, List.getElem?_map, h, Option.map_some, blt_dec, ho, decide_true, cond_true, he]
  rw [← List.map_set]
  simp [M, setTh, stBox]
theorem st_at {k : Nat} {t : Th} {x : Int} (h : σ.th[k]? = some t) : aStore tab (M σ ext) 3 (.ptr 1 k 1) (nI x) = some (M (setTh σ k { t with at_ := x }) ext) := stA lk3 rfl rfl (st_thc h (by simp [Th.enc]) (by simp [Th.enc]))
theorem st_began {k : Nat} {t : Th} {x : Bool} (h : σ.th[k]? = some t) : aStore tab (M σ ext) 4 (.ptr 1 k 0) (nB x) = some (M (setTh σ k { t with began := x }) ext) := stA lk4 rfl rfl (st_thc h (by simp [Th.enc]) (by simp [Th.enc]))
theorem st_reg {k : Nat} {r : Int} {t : Th} {x : Int} (h : σ.th[k]? = some t) (hr : r.toNat < t.regs.length) : aStore tab (M σ ext) 3 (.ptr 1 k (ro r)) (nI x) = some (M (setTh σ k { t with regs := t.regs.set r.toNat x }) ext) := stA lk3 rfl rfl (st_thc h (by simp [Th.enc, ro]; omega) (by unfold ro; rw [Nat.add_comm]; simp [Th.enc, List.map_set]))
theorem st_num {id k : Nat} {l : List Int} {x : Int} {m' : Mem2} (ho : obGet (M σ ext) id = some (.arr 1 (encI l))) (hk : k < l.length) (hm : (M σ ext).set id (some (.arr 1 (encI (l.set k x)))) = m') : aStore tab (M σ ext) 3 (.ptr id k 0) (nI x) = some m' := by
  refine stA lk3 rfl rfl ?_
  unfold store1
  rw [ho]
  have e : (encI l)[k]? = some [ci l[k]] := by simp [encI, hk]
  simp only [toC, e, List.length_singleton, blt_dec, Nat.lt_one_iff, decide_true, cond_true, List.set_cons_zero, ← hm]
  simp [encI, List.map_set]
theorem st_var {k : Nat} {x : Int} (h : k < σ.vars.length) : aStore tab (M σ ext) 3 (.ptr 2 k 0) (nI x) = some (M (setVar σ k x) ext) := st_num rfl h (by simp [M, setVar, stBox])
theorem st_atom {k : Nat} {x : Int} (h : k < σ.atoms.length) : aStore tab (M σ ext) 3 (.ptr 3 k 0) (nI x) = some (M (setAtom σ k x) ext) := st_num rfl h (by simp [M, setAtom, stBox])
theorem st_lock {k : Nat} {x : Int} (h : k < σ.locks.length) : aStore tab (M σ ext) 3 (.ptr 4 k 0) (nI x) = some (M (setLock σ k x) ext) := st_num rfl h (by simp [M, setLock, stBox])
theorem st_group {k : Nat} {x : Int} (h : k < σ.groups.length) : aStore tab (M σ ext) 3 (.ptr 6 k 0) (nI x) = some (M (setGroup σ k x) ext) := st_num rfl h (by simp [M, setGroup, stBox])
theorem st_once {k : Nat} {x : Int} (h : k < σ.onces.length) : aStore tab (M σ ext) 3 (.ptr 7 k 0) (nI x) = some (M (setOnce σ k x) ext) := st_num rfl h (by simp [M, setOnce, stBox])
theorem st_trap {b : Bool} : aStore tab (M σ ext) 4 (.ptr 0 0 15) (nB b) = some (M (setTrap σ b) ext) := stA lk4 rfl rfl rfl
theorem st_closed {k : Nat} {c : Ch} {b : Bool} (h : σ.ch[k]? = some c) : aStore tab (M σ ext) 4 (.ptr 5 k 1) (nB b) = some (M (setCh σ k { c with closed := b }) ext) := by
  refine stA lk4 rfl rfl ?_
  unfold store1
  rw [show obGet (M σ ext) 5 = some (.arw 2 (σ.ch.map Ch.enc)) from rfl]
  simp only [toC, List.getElem?_map, h, Option.map_some, blt_dec]
  simp [Ch.enc, M, setCh, stBox, List.map_set]
theorem th_get {k : Nat} {t t' : Th} (h : σ.th[k]? = some t) : (setTh σ k t').th[k]? = some t' := by
  have := (List.getElem?_eq_some_iff.1 h).1
  simp [setTh, this]
end
attribute [simp] th_get st_at st_began st_reg st_var st_atom st_lock st_group st_once st_trap st_closed
def rg (t : Th) (r : Int) : Int := if 0 ≤ r ∧ r < 4 then at0 t.regs r else 0
def ownF (t : Th) (i : Ins) : Option Th :=
  if i.op = 0 then some t
  else if i.op = 1 then some { t with regs := t.regs.set i.a.toNat i.b }
  else if i.op = 2 then some { t with regs := t.regs.set i.a.toNat (rg t i.b) }
  else if i.op = 3 then some { t with regs := t.regs.set i.a.toNat (IntKind.i64.wrap (rg t i.b + rg t i.c)) }
  else if i.op = 4 then some { t with regs := t.regs.set i.a.toNat (IntKind.i64.wrap (rg t i.b - rg t i.c)) }
  else if i.op = 5 then some { t with regs := t.regs.set i.a.toNat (IntKind.i64.wrap (rg t i.b * rg t i.c)) }
  else if i.op = 6 then some { t with regs := t.regs.set i.a.toNat (if rg t i.b < rg t i.c then 1 else 0) }
  else if i.op = 10 then some { t with at_ := i.a }
  else if i.op = 11 then (if at0 t.regs i.a = 0 then some { t with at_ := i.b } else some t)
  else none
end Go.Proofs.YtogfcpaalcebdaaE
/- What a write leaves as it is; boxes that stay; rows cut. -/
namespace Go.Proofs.YtogfcpaalcebdaaE
open Go Go.RowKit
set_option linter.unusedVariables false
set_option linter.unusedSimpArgs false
@[simp] theorem setTh_p (σ : Sg) (k : Nat) (t : Th) : (setTh σ k t).p = σ.p := rfl
@[simp] theorem setTh_vars (σ : Sg) (k : Nat) (t : Th) : (setTh σ k t).vars = σ.vars := rfl
@[simp] theorem setTh_atoms (σ : Sg) (k : Nat) (t : Th) : (setTh σ k t).atoms = σ.atoms := rfl
@[simp] theorem setTh_locks (σ : Sg) (k : Nat) (t : Th) : (setTh σ k t).locks = σ.locks := rfl
@[simp] theorem setTh_ch (σ : Sg) (k : Nat) (t : Th) : (setTh σ k t).ch = σ.ch := rfl
@[simp] theorem setTh_groups (σ : Sg) (k : Nat) (t : Th) : (setTh σ k t).groups = σ.groups := rfl
@[simp] theorem setTh_onces (σ : Sg) (k : Nat) (t : Th) : (setTh σ k t).onces = σ.onces := rfl
@[simp] theorem setTh_told (σ : Sg) (k : Nat) (t : Th) : (setTh σ k t).told = σ.told := rfl
@[simp] theorem setTh_trapped (σ : Sg) (k : Nat) (t : Th) : (setTh σ k t).trapped = σ.trapped := rfl
@[simp] theorem setVar_p (σ : Sg) (k : Nat) (x : Int) : (setVar σ k x).p = σ.p := rfl
@[simp] theorem setVar_th (σ : Sg) (k : Nat) (x : Int) : (setVar σ k x).th = σ.th := rfl
@[simp] theorem setVar_atoms (σ : Sg) (k : Nat) (x : Int) : (setVar σ k x).atoms = σ.atoms := rfl
@[simp] theorem setVar_locks (σ : Sg) (k : Nat) (x : Int) : (setVar σ k x).locks = σ.locks := rfl
@[simp] theorem setVar_ch (σ : Sg) (k : Nat) (x : Int) : (setVar σ k x).ch = σ.ch := rfl
@[simp] theorem setVar_groups (σ : Sg) (k : Nat) (x : Int) : (setVar σ k x).groups = σ.groups := rfl
@[simp] theorem setVar_onces (σ : Sg) (k : Nat) (x : Int) : (setVar σ k x).onces = σ.onces := rfl
@[simp] theorem setVar_told (σ : Sg) (k : Nat) (x : Int) : (setVar σ k x).told = σ.told := rfl
@[simp] theorem setVar_trapped (σ : Sg) (k : Nat) (x : Int) : (setVar σ k x).trapped = σ.trapped := rfl
theorem setVar_self (σ : Sg) (k : Nat) (x : Int) : (setVar σ k x).vars = σ.vars.set k x := rfl
@[simp] theorem setAtom_p (σ : Sg) (k : Nat) (x : Int) : (setAtom σ k x).p = σ.p := rfl
@[simp] theorem setAtom_th (σ : Sg) (k : Nat) (x : Int) : (setAtom σ k x).th = σ.th := rfl
@[simp] theorem setAtom_vars (σ : Sg) (k : Nat) (x : Int) : (setAtom σ k x).vars = σ.vars := rfl
@[simp] theorem setAtom_locks (σ : Sg) (k : Nat) (x : Int) : (setAtom σ k x).locks = σ.locks := rfl
@[simp] theorem setAtom_ch (σ : Sg) (k : Nat) (x : Int) : (setAtom σ k x).ch = σ.ch := rfl
@[simp] theorem setAtom_groups (σ : Sg) (k : Nat) (x : Int) : (setAtom σ k x).groups = σ.groups := rfl
@[simp] theorem setAtom_onces (σ : Sg) (k : Nat) (x : Int) : (setAtom σ k x).onces = σ.onces := rfl
@[simp] theorem setAtom_told (σ : Sg) (k : Nat) (x : Int) : (setAtom σ k x).told = σ.told := rfl
@[simp] theorem setAtom_trapped (σ : Sg) (k : Nat) (x : Int) : (setAtom σ k x).trapped = σ.trapped := rfl
theorem setAtom_self (σ : Sg) (k : Nat) (x : Int) : (setAtom σ k x).atoms = σ.atoms.set k x := rfl
@[simp] theorem setLock_p (σ : Sg) (k : Nat) (x : Int) : (setLock σ k x).p = σ.p := rfl
@[simp] theorem setLock_th (σ : Sg) (k : Nat) (x : Int) : (setLock σ k x).th = σ.th := rfl
@[simp] theorem setLock_vars (σ : Sg) (k : Nat) (x : Int) : (setLock σ k x).vars = σ.vars := rfl
@[simp] theorem setLock_atoms (σ : Sg) (k : Nat) (x : Int) : (setLock σ k x).atoms = σ.atoms := rfl
@[simp] theorem setLock_ch (σ : Sg) (k : Nat) (x : Int) : (setLock σ k x).ch = σ.ch := rfl
@[simp] theorem setLock_groups (σ : Sg) (k : Nat) (x : Int) : (setLock σ k x).groups = σ.groups := rfl
@[simp] theorem setLock_onces (σ : Sg) (k : Nat) (x : Int) : (setLock σ k x).onces = σ.onces := rfl
@[simp] theorem setLock_told (σ : Sg) (k : Nat) (x : Int) : (setLock σ k x).told = σ.told := rfl
@[simp] theorem setLock_trapped (σ : Sg) (k : Nat) (x : Int) : (setLock σ k x).trapped = σ.trapped := rfl
theorem setLock_self (σ : Sg) (k : Nat) (x : Int) : (setLock σ k x).locks = σ.locks.set k x := rfl
@[simp] theorem setCh_p (σ : Sg) (k : Nat) (c : Ch) : (setCh σ k c).p = σ.p := rfl
@[simp] theorem setCh_th (σ : Sg) (k : Nat) (c : Ch) : (setCh σ k c).th = σ.th := rfl
@[simp] theorem setCh_vars (σ : Sg) (k : Nat) (c : Ch) : (setCh σ k c).vars = σ.vars := rfl
@[simp] theorem setCh_atoms (σ : Sg) (k : Nat) (c : Ch) : (setCh σ k c).atoms = σ.atoms := rfl
@[simp] theorem setCh_locks (σ : Sg) (k : Nat) (c : Ch) : (setCh σ k c).locks = σ.locks := rfl
@[simp] theorem setCh_groups (σ : Sg) (k : Nat) (c : Ch) : (setCh σ k c).groups = σ.groups := rfl
@[simp] theorem setCh_onces (σ : Sg) (k : Nat) (c : Ch) : (setCh σ k c).onces = σ.onces := rfl
@[simp] theorem setCh_told (σ : Sg) (k : Nat) (c : Ch) : (setCh σ k c).told = σ.told := rfl
@[simp] theorem setCh_trapped (σ : Sg) (k : Nat) (c : Ch) : (setCh σ k c).trapped = σ.trapped := rfl
theorem setCh_self (σ : Sg) (k : Nat) (c : Ch) : (setCh σ k c).ch = σ.ch.set k c := rfl
@[simp] theorem setGroup_p (σ : Sg) (k : Nat) (x : Int) : (setGroup σ k x).p = σ.p := rfl
@[simp] theorem setGroup_th (σ : Sg) (k : Nat) (x : Int) : (setGroup σ k x).th = σ.th := rfl
@[simp] theorem setGroup_vars (σ : Sg) (k : Nat) (x : Int) : (setGroup σ k x).vars = σ.vars := rfl
@[simp] theorem setGroup_atoms (σ : Sg) (k : Nat) (x : Int) : (setGroup σ k x).atoms = σ.atoms := rfl
@[simp] theorem setGroup_locks (σ : Sg) (k : Nat) (x : Int) : (setGroup σ k x).locks = σ.locks := rfl
@[simp] theorem setGroup_ch (σ : Sg) (k : Nat) (x : Int) : (setGroup σ k x).ch = σ.ch := rfl
@[simp] theorem setGroup_onces (σ : Sg) (k : Nat) (x : Int) : (setGroup σ k x).onces = σ.onces := rfl
@[simp] theorem setGroup_told (σ : Sg) (k : Nat) (x : Int) : (setGroup σ k x).told = σ.told := rfl
@[simp] theorem setGroup_trapped (σ : Sg) (k : Nat) (x : Int) : (setGroup σ k x).trapped = σ.trapped := rfl
theorem setGroup_self (σ : Sg) (k : Nat) (x : Int) : (setGroup σ k x).groups = σ.groups.set k x := rfl
@[simp] theorem setOnce_p (σ : Sg) (k : Nat) (x : Int) : (setOnce σ k x).p = σ.p := rfl
@[simp] theorem setOnce_th (σ : Sg) (k : Nat) (x : Int) : (setOnce σ k x).th = σ.th := rfl
@[simp] theorem setOnce_vars (σ : Sg) (k : Nat) (x : Int) : (setOnce σ k x).vars = σ.vars := rfl
@[simp] theorem setOnce_atoms (σ : Sg) (k : Nat) (x : Int) : (setOnce σ k x).atoms = σ.atoms := rfl
@[simp] theorem setOnce_locks (σ : Sg) (k : Nat) (x : Int) : (setOnce σ k x).locks = σ.locks := rfl
@[simp] theorem setOnce_ch (σ : Sg) (k : Nat) (x : Int) : (setOnce σ k x).ch = σ.ch := rfl
@[simp] theorem setOnce_groups (σ : Sg) (k : Nat) (x : Int) : (setOnce σ k x).groups = σ.groups := rfl
@[simp] theorem setOnce_told (σ : Sg) (k : Nat) (x : Int) : (setOnce σ k x).told = σ.told := rfl
@[simp] theorem setOnce_trapped (σ : Sg) (k : Nat) (x : Int) : (setOnce σ k x).trapped = σ.trapped := rfl
theorem setOnce_self (σ : Sg) (k : Nat) (x : Int) : (setOnce σ k x).onces = σ.onces.set k x := rfl
@[simp] theorem setTrap_p (σ : Sg) (b : Bool) : (setTrap σ b).p = σ.p := rfl
@[simp] theorem setTrap_th (σ : Sg) (b : Bool) : (setTrap σ b).th = σ.th := rfl
@[simp] theorem setTrap_vars (σ : Sg) (b : Bool) : (setTrap σ b).vars = σ.vars := rfl
@[simp] theorem setTrap_atoms (σ : Sg) (b : Bool) : (setTrap σ b).atoms = σ.atoms := rfl
@[simp] theorem setTrap_locks (σ : Sg) (b : Bool) : (setTrap σ b).locks = σ.locks := rfl
@[simp] theorem setTrap_ch (σ : Sg) (b : Bool) : (setTrap σ b).ch = σ.ch := rfl
@[simp] theorem setTrap_groups (σ : Sg) (b : Bool) : (setTrap σ b).groups = σ.groups := rfl
@[simp] theorem setTrap_onces (σ : Sg) (b : Bool) : (setTrap σ b).onces = σ.onces := rfl
@[simp] theorem setTrap_told (σ : Sg) (b : Bool) : (setTrap σ b).told = σ.told := rfl
def L10 : List Nat := [0, 1, 2, 3, 4, 5, 6, 7, 8, 9]
section
variable {σ : Sg} {e ext : Mem2} {cs : List V} {N : Nat} {S : Spec}
theorem foot10 (h : renL (fun id => posOf id L10) cs = some cs) : footM (M σ (some (.box cs) :: e)) (fun id => posOf id L10) L10 = some (M σ [some (.box cs)]) := by
  have h9 : renOb (fun id => posOf id L10) (.box cs) = some (.box cs) := by
    unfold renOb; dsimp only; rw [h]; rfl
  have h1 : footM (M σ (some (.box cs) :: e)) (fun id => posOf id L10) [9] = some [some (.box cs)] := by
    show (match renOb (fun id => posOf id L10) (.box cs) with
      | some o' => (match footM (M σ (some (.box cs) :: e)) (fun id => posOf id L10) [] with
        | some l => some (some o' :: l)
        | none => none)
      | none => none) = _
    rw [h9]; rfl
  have h2 : ∀ m, footM m (fun id => posOf id L10) [9] = some [some (.box cs)] → ∀ (l : List Nat) (x : Mem2), footM m (fun id => posOf id L10) l = some x → footM m (fun id => posOf id L10) (l ++ [9]) = some (x ++ [some (.box cs)]) := fun m hm l => by
    induction l with
    | nil => intro x hx; cases hx; exact hm
    | cons a l ih =>
      intro x hx
      rw [List.cons_append]
      unfold footM at hx ⊢
      split at hx
      · rename_i o ho
        split at hx
        · rename_i o' ho'
          split at hx
          · rename_i l' hl'
            cases hx
            rw [ih _ hl']
            rfl
          · cases hx
        · cases hx
      · cases hx
  exact h2 _ h1 [0, 1, 2, 3, 4, 5, 6, 7, 8] (M σ []) rfl
theorem endA_r10 {A : Nat → V} {rs : List ResultVar} {Post : V → Mem2 → Prop} {y z : V} (h : resA tab rs ⟨A, M σ (some (.box cs) :: e)⟩ = some y) (h3 : renL (fun id => posOf id L10) cs = some cs) (h4 : ren (fun id => posOf id L10) y = some z) (hp : Post z (M σ [some (.box cs)])) : endA (env N S) 10 [] rs Post .ret ⟨A, M σ (some (.box cs) :: e)⟩ := endA_rL L10 h rfl rfl (foot10 h3) h4 hp
theorem endA_n10 {A : Nat → V} {rs : List ResultVar} {Post : V → Mem2 → Prop} {y z : V} (h : resA tab rs ⟨A, M σ (some (.box cs) :: e)⟩ = some y) (h3 : renL (fun id => posOf id L10) cs = some cs) (h4 : ren (fun id => posOf id L10) y = some z) (hp : Post z (M σ [some (.box cs)])) : endA (env N S) 10 [] rs Post .normal ⟨A, M σ (some (.box cs) :: e)⟩ := endA_nL L10 h rfl rfl (foot10 h3) h4 hp
variable {k : Nat} {ops : List Oper} {K : St → Prop} {r : List Oper} {nid : Nat} {A : Nat → V} {ty : TypeId} {pos : String} {aft : Array Edge} {x y : Operand} {c : Ch} {off len : Nat}
theorem row_cut {p : Mem2 → Prop} (hx : ev A x = .ptr 5 k 0) (hy : ev A y = .rw 5 k 0 c.ver off len) (h : σ.ch[k]? = some c) (hl : off + len ≤ c.row.length) (hK : ∀ ver, p (M (setCh σ k { c with row := (c.row.drop off).take len, ver := ver }) ext)) : WStore (env N S) 23 (ev A x) (ev A y) (M σ ext) p := by
  refine .inr ⟨5, k, 0, 2, σ.ch.map Ch.enc, c.enc, .ow (c.row.map ci) c.ver, ((c.row.drop off).take len).map ci, M σ ext, ti23, hx, lk23, rfl, rfl, by simp [h], rfl, ?_, fun ver => ?_⟩
  · rw [hy]
    unfold rowOf
    dsimp only
    rw [if_pos ⟨rfl, rfl, rfl, rfl, by simpa using hl⟩]
    simp [List.map_drop, List.map_take]
  · have := hK ver
    have e1 : (M σ ext).set 5 (some (.arw 2 ((σ.ch.map Ch.enc).set k (c.enc.set 0 (.ow (((c.row.drop off).take len).map ci) ver))))) = M (setCh σ k { c with row := (c.row.drop off).take len, ver := ver }) ext := by
      simp [M, setCh, stBox, Ch.enc, List.map_set]
    rw [e1]
    exact this
theorem wl_cut (hx : ev A x = .ptr 5 k 0) (hy : ev A y = .rw 5 k 0 c.ver off len) (h : σ.ch[k]? = some c) (hl : off + len ≤ c.row.length) (hK : ∀ ver, Wl (env N S) ops K r nid ⟨A, M (setCh σ k { c with row := (c.row.drop off).take len, ver := ver }) ext⟩) : Wl (env N S) ops K (⟨none, .store 23 x y, ty, pos, aft, none⟩ :: r) nid ⟨A, M σ ext⟩ := row_cut (p := fun m' => Wl (env N S) ops K r nid ⟨A, m'⟩) hx hy h hl hK
theorem wr_cut {lw nn ii : Nat} {qs : List Nat} {rr : List Nu} (hx : ev A x = .ptr 5 k 0) (hy : ev A y = .rw 5 k 0 c.ver off len) (h : σ.ch[k]? = some c) (hl : off + len ≤ c.row.length) (hK : ∀ ver, Wr (env N S) lw qs ops K rr ⟨A, M (setCh σ k { c with row := (c.row.drop off).take len, ver := ver }) ext⟩) : Wr (env N S) lw qs ops K ((ii, ⟨none, .store 23 x y, ty, pos, aft, none⟩, nn) :: rr) ⟨A, M σ ext⟩ := row_cut (p := fun m' => Wr (env N S) lw qs ops K rr ⟨A, m'⟩) hx hy h hl hK
end
def pq (P : V → Mem2 → Prop) (mv : List Nat) : V → Mem2 → List Nat → Prop := fun r a b => P r a ∧ b = mv
theorem meets_q {S : Spec} (h : Good S) {f : FuncId} {fn : Func} {c : Code} (hf : Try.prog.funcs[f]? = some fn) (hb : fn.body = some c) {args : List V} {m : Mem2} (hle : Nat.ble args.length fn.ntmps = true) {P : V → Mem2 → Prop} {mv : List Nat}
    (hw : Awp (env fn.ntmps S) m.length mv c (endA (env fn.ntmps S) m.length mv fn.results.toList P) (start args m)) : Meets f args m (pq P mv) :=
  entry_sound (h.env fn.ntmps) mixed hf hb rfl (Nat.le_of_ble_eq_true hle) (Awp_mono c (fun e s q => by
    have key : ∀ s, lastA (env fn.ntmps S) m.length mv fn.results.toList P s → lastA (env fn.ntmps S) m.length mv fn.results.toList (fun r a => pq P mv r a mv) s := fun s ⟨r, h1, h2⟩ => by
      refine ⟨r, h1, ?_⟩
      rcases h2 with h2 | ⟨L, mc, a1, a2, a3, a4⟩
      · exact .inl ⟨h2, rfl⟩
      · exact .inr ⟨L, mc, a1, a2, a3, a4, rfl⟩
    cases e with
    | normal => exact Gq_mono key q
    | ret => exact Gq_mono key q
    | _ => exact q) hw)
end Go.Proofs.YtogfcpaalcebdaaE
