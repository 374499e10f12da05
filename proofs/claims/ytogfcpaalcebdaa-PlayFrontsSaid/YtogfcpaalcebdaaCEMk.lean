/- A step, as a plain function; what its parts do, as contracts. -/
import Derived.Test.YtogfcpaalcebdaaCETell
import Derived.Test.YtogfcpaalcebdaaCEWalk6
namespace Go.Proofs.YtogfcpaalcebdaaE
open Go Go.RowKit
set_option linter.unusedVariables false
set_option linter.unusedSimpArgs false
inductive SB : Spec
  | can (σ : Sg) (k : Int) (hW : WF σ) : SB 23 [.ptr 0 0 0, nI k] (M σ []) (pt (nB (can σ k)) (M σ []) [])
  | own (σ : Sg) (k : Nat) (t : Th) (i : Ins) (n : Int) (h1 : σ.th[k]? = some t) (hr : t.regs.length = 4) (hF : Reg4 n i) : SB 43 [.ptr 1 k 0, .agg [nU i.op, nI i.a, nI i.b, nI i.c]] (M σ []) (pt (nB (ownF t i).isSome) (M (setTh σ k (ownT t i)) []) [])
  | take (σ : Sg) (k : Nat) (t : Th) (i : Ins) (n v md x1 x2 x3 x4 : Int) (h1 : σ.th[k]? = some t) (hr : t.regs.length = 4) (hR : Reg4 n i) (hF : Fit σ i) (hF2 : Fit2 σ i) (hop : i.op = 17 ∨ i.op = 19 ∨ i.op = 21 ∨ i.op = 22 ∨ i.op = 26) :
      SB 44 [.ptr 0 0 0, .ptr 1 k 0, .agg [nU i.op, nI i.a, nI i.b, nI i.c], .ptr 9 0 0] (M σ [some (.box [nI x1, nI x2, nU x3, nI x4, nI v, nI md])]) (pq (fun r a => r = .tup [] ∧ ∃ ver, a = M (takeF σ k t i v md ver).1 [some (.box [nI x1, nI x2, nU x3, nI x4, nI (takeF σ k t i v md ver).2.1, nI (takeF σ k t i v md ver).2.2])]) [])
  | give (σ : Sg) (k : Nat) (t : Th) (i : Ins) (n v md x1 x2 x3 x4 : Int) (h1 : σ.th[k]? = some t) (hr : t.regs.length = 4) (hR : Reg4 n i) (hF : Fit σ i) (hF2 : Fit2 σ i) (hlen : (chAt σ.ch i.a).row.length < 1000000) :
      SB 45 [.ptr 0 0 0, .ptr 1 k 0, .agg [nU i.op, nI i.a, nI i.b, nI i.c], .ptr 9 0 0] (M σ [some (.box [nI x1, nI x2, nU x3, nI x4, nI v, nI md])]) (pq (fun r a => ∃ ver, r = nB (giveF σ t i v ver).2.2 ∧ a = M (giveF σ t i v ver).1 [some (.box [nI x1, nI x2, nU x3, nI x4, nI (giveF σ t i v ver).2.1, nI md])]) [])
theorem SB_good : Good SB := by
  refine ⟨fun f a m P h => ?_, fun f a m P h => ?_⟩
  · cases h with
    | can σ k hW => exact can_m SA_good σ k hW
    | own σ k t i n h1 hr hF => exact own_m SA_good σ k t i n h1 hr hF
    | take σ k t i n v md x1 x2 x3 x4 h1 hr hR hF hF2 hop => exact take_m SA_good σ k t i n v md x1 x2 x3 x4 h1 hr hR hF hF2 hop
    | give σ k t i n v md x1 x2 x3 x4 h1 hr hR hF hF2 hlen => exact give_m SA_good σ k t i n v md x1 x2 x3 x4 h1 hr hR hF hF2 hlen
  · cases h with
    | can σ k hW => exact ⟨_, Try.func23, rfl, rfl⟩
    | own σ k t i n h1 hr hF => exact ⟨_, Try.func43, rfl, rfl⟩
    | take σ k t i n v md x1 x2 x3 x4 h1 hr hR hF hF2 hop => exact ⟨_, Try.func44, rfl, rfl⟩
    | give σ k t i n v md x1 x2 x3 x4 h1 hr hR hF hF2 hlen => exact ⟨_, Try.func45, rfl, rfl⟩
end Go.Proofs.YtogfcpaalcebdaaE
/- A step, as a plain function. -/
namespace Go.Proofs.YtogfcpaalcebdaaE
open Go Go.RowKit
set_option linter.unusedVariables false
set_option linter.unusedSimpArgs false
structure Evt where
  th : Int
  pc : Int
  op : Int
  obj : Int
  val : Int
  mode : Int
deriving DecidableEq
def Evt.cells (e : Evt) : List V := [nI e.th, nI e.pc, nU e.op, nI e.obj, nI e.val, nI e.mode]
def Evt.none : Evt := ⟨0, 0, 0, 0, 0, 0⟩
def adv1 (t : Th) : Th := { t with at_ := IntKind.i64.wrap (t.at_ + 1) }
def goF (σ : Sg) (k : Int) (ver : Nat) : Sg × Evt :=
  let t := thAt σ k
  let i := insAt σ k
  let t1 := adv1 t
  let σ1 := setTh σ k.toNat t1
  let e : Evt := ⟨k, t.at_, i.op, 0, 0, 0⟩
  match ownF t1 i with
  | some t2 => (setTh σ1 k.toNat t2, e)
  | none =>
    if i.op = 7 then (setTh σ1 k.toNat (setR t1 i.a (at0 σ.vars i.b)), { e with obj := i.b, val := at0 σ.vars i.b })
    else if i.op = 8 then (setVar σ1 i.a.toNat (at0 t1.regs i.b), { e with obj := i.a, val := at0 t1.regs i.b })
    else if i.op = 9 then (setTold σ1 (σ.told ++ [at0 t1.regs i.a]), { e with val := at0 t1.regs i.a })
    else if i.op = 17 ∨ i.op = 19 ∨ i.op = 21 ∨ i.op = 22 ∨ i.op = 26 then ((takeF σ1 k.toNat t1 i 0 0 ver).1, { e with obj := i.b, val := (takeF σ1 k.toNat t1 i 0 0 ver).2.1, mode := (takeF σ1 k.toNat t1 i 0 0 ver).2.2 })
    else (setTrap (giveF σ1 t1 i 0 ver).1 (!(giveF σ1 t1 i 0 ver).2.2), { e with obj := i.a, val := (giveF σ1 t1 i 0 ver).2.1 })
end Go.Proofs.YtogfcpaalcebdaaE
/- What the walk of a step needs. -/
namespace Go.Proofs.YtogfcpaalcebdaaE
open Go Go.RowKit
set_option linter.unusedVariables false
set_option linter.unusedSimpArgs false
theorem Fit_th {σ : Sg} {i : Ins} {k : Nat} {t : Th} (h : Fit σ i) : Fit (setTh σ k t) i := ⟨h.l, h.s, h.r, h.g, h.o, h.e⟩
theorem Fit2_th {σ : Sg} {i : Ins} {k : Nat} {t : Th} (h : Fit2 σ i) : Fit2 (setTh σ k t) i := ⟨h.v, h.w, h.m, h.n, fun q => by
  have := h.t q
  unfold inR at this ⊢
  simpa [setTh] using this⟩
theorem chAt_len {l : List Ch} (h : ∀ c ∈ l, c.row.length < 1000000) (n : Int) : (chAt l n).row.length < 1000000 := by
  unfold chAt
  rw [List.getD_eq_getElem?_getD]
  cases hq : l[n.toNat]? with
  | none => exact (by decide : (0 : Nat) < 1000000)
  | some c => exact h c (List.mem_of_getElem? hq)
section
variable {E : Env} {σ : Sg} {e : Mem2}
theorem Awp_sqB {k : Nat} {mv : List Nat} {id : Nat} {x y : Code} {Q : Exit → St → Prop} {s : St} (h : ∀ K : St → Prop, Kont K (Gq E k mv (Awp E k mv y Q)) → Awp E k mv (.block id x) (thenA K Q) s) : Awp E k mv (.seq (.block id x) y) Q s := h _ fun _ h => h
theorem gq_tell {l : List Int} {c9 c10 c11 : List V} {x12 : Option Ob} {A : Nat → V} {K : St → Prop} (h9 : renL (fun id => posOf id LT) c9 = some c9) (h10 : renL (fun id => posOf id LT) c10 = some c10) (h11 : renL (fun id => posOf id LT) c11 = some c11)
    (hK : K ⟨fun t => renD LT (A t), M (setTold σ l) [some (.box c9), some (.box c10), some (.box c11)]⟩) : Gq E 9 [8] K ⟨A, MT σ 13 l (some (.box c9) :: some (.box c10) :: some (.box c11) :: x12 :: some (.arr 1 (encI l)) :: e)⟩ := ⟨_, tellG h9 h10 h11, hK⟩
theorem endA_r9t {A : Nat → V} {rs : List ResultVar} {Post : V → List (Option Ob) → Prop} {y z : V} (h : resA E.T rs ⟨A, M σ e⟩ = some y) (h4 : ren (fun id => posOf id L9) y = some z) (hp : Post z (M σ [])) : endA E 9 [8] rs Post .ret ⟨A, M σ e⟩ := endA_rL L9 h rfl rfl foot9 h4 hp
theorem rv_eq {N : Nat} {S : Spec} {lw d : Nat} {qs : List Nat} {ops : List Oper} {K : St → Prop} {rr : List Nu} {A : Nat → V} {m : Mem2} {o : Option V} {v : V} (h : o = some v) (hK : RV (env N S) lw qs ops K rr A m d (some v)) : RV (env N S) lw qs ops K rr A m d o := by rw [h]; exact hK
theorem rs_eq {N : Nat} {S : Spec} {lw : Nat} {qs : List Nat} {ops : List Oper} {K : St → Prop} {rr : List Nu} {A : Nat → V} {o : Option Mem2} {v : Mem2} (h : o = some v) (hK : RS (env N S) lw qs ops K rr A (some v)) : RS (env N S) lw qs ops K rr A o := by rw [h]; exact hK
end
@[simp] theorem renLT_9 : renD LT (.ptr 9 0 0) = .ptr 9 0 0 := rfl
@[simp] theorem renLT_10 : renD LT (.ptr 10 0 0) = .ptr 10 0 0 := rfl
@[simp] theorem renLT_11 : renD LT (.ptr 11 0 0) = .ptr 11 0 0 := rfl
@[simp] theorem renLT_c {x : C} : renD LT (.c x) = .c x := rfl
@[simp] theorem adv1_regs {t : Th} : (adv1 t).regs = t.regs := rfl
@[simp] theorem adv1_began {t : Th} : (adv1 t).began = t.began := rfl
theorem goF_eq {σ : Sg} {k : Int} {ver : Nat} {t : Th} {i : Ins} (ht : thAt σ k = t) (hi : insAt σ k = i) : goF σ k ver =
    (match ownF (adv1 t) i with
    | some t2 => (setTh (setTh σ k.toNat (adv1 t)) k.toNat t2, ⟨k, t.at_, i.op, 0, 0, 0⟩)
    | none =>
      if i.op = 7 then (setTh (setTh σ k.toNat (adv1 t)) k.toNat (setR (adv1 t) i.a (at0 σ.vars i.b)), ⟨k, t.at_, i.op, i.b, at0 σ.vars i.b, 0⟩)
      else if i.op = 8 then (setVar (setTh σ k.toNat (adv1 t)) i.a.toNat (at0 t.regs i.b), ⟨k, t.at_, i.op, i.a, at0 t.regs i.b, 0⟩)
      else if i.op = 9 then (setTold (setTh σ k.toNat (adv1 t)) (σ.told ++ [at0 t.regs i.a]), ⟨k, t.at_, i.op, 0, at0 t.regs i.a, 0⟩)
      else if i.op = 17 ∨ i.op = 19 ∨ i.op = 21 ∨ i.op = 22 ∨ i.op = 26 then ((takeF (setTh σ k.toNat (adv1 t)) k.toNat (adv1 t) i 0 0 ver).1, ⟨k, t.at_, i.op, i.b, (takeF (setTh σ k.toNat (adv1 t)) k.toNat (adv1 t) i 0 0 ver).2.1, (takeF (setTh σ k.toNat (adv1 t)) k.toNat (adv1 t) i 0 0 ver).2.2⟩)
      else (setTrap (giveF (setTh σ k.toNat (adv1 t)) (adv1 t) i 0 ver).1 (!(giveF (setTh σ k.toNat (adv1 t)) (adv1 t) i 0 ver).2.2), ⟨k, t.at_, i.op, i.a, (giveF (setTh σ k.toNat (adv1 t)) (adv1 t) i 0 ver).2.1, 0⟩)) := by
  subst ht hi
  unfold goF
  rfl
@[simp] theorem pb_ev0 : pBuild tab 41 [] = some (.agg [nI 0, nI 0, nU 0, nI 0, nI 0, nI 0]) := rfl
@[simp] theorem pb_ev3 {a b c : Int} : pBuild tab 41 [(0, nI a), (1, nI b), (2, nU c)] = some (.agg [nI a, nI b, nU c, nI 0, nI 0, nI 0]) := rfl
end Go.Proofs.YtogfcpaalcebdaaE
/- Rules: make, maps, loops of a known number of rounds, cuts. -/
namespace Go.Proofs.YtogfcpaalcebdaaE
open Go Go.RowKit
set_option linter.unusedVariables false
set_option linter.unusedSimpArgs false
section
variable {E : Env} {ops : List Oper} {K : St → Prop} {r : List Oper} {nid d : Nat} {A : Nat → V} {m : Mem2} {ty : TypeId} {pos : String} {aft : Array Edge} {k : Nat} {mv : List Nat}
variable {lw nn ii : Nat} {qs : List Nat} {rr : List Nu}
theorem wl_mk {t : TypeId} {x y : Operand} (h : WMake E t (ev A x) (ev A y) m nid fun v m' => Wl E ops K r (nid + 1) ⟨up A d v, m'⟩) : Wl E ops K (⟨some d, .makeSlice t x y, ty, pos, aft, none⟩ :: r) nid ⟨A, m⟩ := h
theorem wr_mk {t : TypeId} {x y : Operand} {v : V} {ob : Ob} (h : MakeR E t (ev A x) (ev A y) nn v ob) (h2 : Wr E lw qs ops K rr ⟨up A d v, m.set nn (some ob)⟩) : Wr E lw qs ops K ((ii, ⟨some d, .makeSlice t x y, ty, pos, aft, none⟩, nn) :: rr) ⟨A, m⟩ := ⟨v, ob, h, h2⟩
theorem wl_lit {t : TypeId} {n si : Nat} {ps : Array (Nat × Operand)} {es : List (List C)} (h : pLit E.T t n (ps.toList.map fun (i, x) => (i, ev A x)) = some (si, es)) (h2 : Wl E ops K r (nid + 1) ⟨up A d (.sl nid si 0 n true), m.set nid (some (.arr si es))⟩) : Wl E ops K (⟨some d, .buildSlice t n ps, ty, pos, aft, none⟩ :: r) nid ⟨A, m⟩ := .inl ⟨si, es, false, h, h2⟩
theorem wl_litF {t : TypeId} {n si : Nat} {ps : Array (Nat × Operand)} {es : List (List C)} (h : pLit E.T t n (ps.toList.map fun (i, x) => (i, ev A x)) = some (si, es)) (h2 : Wl E ops K r (nid + 1) ⟨up A d (.c (.ls es)), m.set nid none⟩) : Wl E ops K (⟨some d, .buildSlice t n ps, ty, pos, aft, none⟩ :: r) nid ⟨A, m⟩ := .inr ⟨si, es, h, h2⟩
theorem wl_mmap {t : TypeId} (h : Wl E ops K r (nid + 1) ⟨up A d (.mp nid), m.set nid (some (.mp []))⟩) : Wl E ops K (⟨some d, .makeMap t none, ty, pos, aft, none⟩ :: r) nid ⟨A, m⟩ := ⟨rfl, h⟩
theorem wl_ins {t : TypeId} {x y z : Operand} {id : Nat} {a b : Int} {l : List (Int × Int)} (h1 : ev A x = .mp id) (h2 : ev A y = nu .u8 a) (h3 : ev A z = nu .i64 b) (ht : MapT E.P t) (ho : obGet m id = some (.mp l)) (h : Wl E ops K r nid ⟨A, m.set id (some (.mp ((a, b) :: l)))⟩) : Wl E ops K (⟨none, .insert t x y z, ty, pos, aft, none⟩ :: r) nid ⟨A, m⟩ := ⟨id, a, b, l, h1, h2, h3, ht, ho, h⟩
theorem wl_look {t : TypeId} {x y : Operand} {id : Nat} {a : Int} {l : List (Int × Int)} (h1 : ev A x = .mp id) (h2 : ev A y = nu .u8 a) (ht : MapT E.P t) (ho : obGet m id = some (.mp l)) (h : Wl E ops K r nid ⟨up A d (.tup [nu .i64 ((mget l a).getD 0), bo (mget l a).isSome]), m⟩) : Wl E ops K (⟨some d, .lookup t x y true, ty, pos, aft, none⟩ :: r) nid ⟨A, m⟩ := ⟨rfl, id, a, l, h1, h2, ht, ho, h⟩
theorem gz_frz {s s2 : St} {P : St → Prop} (id : Nat) (h : frz id s = some s2) (h2 : P s2) : ∃ s2, Gfa E s s2 ∧ P s2 := ⟨s2, .frz h, h2⟩
theorem gz_nl {s : St} {P : St → Prop} (h2 : P ⟨fun t => nlV (s.A t), s.m⟩) : ∃ s2, Gfa E s s2 ∧ P s2 := ⟨_, .nl, h2⟩
def LoopT (E : Env) (k : Nat) (mv : List Nat) (c : Code) (Q : Exit → St → Prop) : Nat → St → Prop
  | 0, _ => False
  | n + 1, s => Awp E k mv c (thenA (Gq E k mv (LoopT E k mv c Q n)) Q) s
theorem Awp_loopN {c : Code} {Q : Exit → St → Prop} {s : St} (n : Nat) (h : LoopT E k mv c Q n s) : Awp E k mv (.loop c) Q s := by
  let μ : St → Nat := fun s => open Classical in if h : ∃ n, LoopT E k mv c Q n s then (least h).choose else 0
  have hμ : ∀ s (h : ∃ n, LoopT E k mv c Q n s), LoopT E k mv c Q (μ s) s ∧ ∀ j, LoopT E k mv c Q j s → μ s ≤ j := fun s h => by
    have e : μ s = (least h).choose := dif_pos h
    rw [e]
    exact (least h).choose_spec
  refine ⟨fun s => ∃ n, LoopT E k mv c Q n s, μ, .here ⟨n, h⟩, fun s hs => ?_⟩
  obtain ⟨h1, h2⟩ := hμ s hs
  generalize hn : μ s = j at *
  cases j with
  | zero => exact h1.elim
  | succ j =>
    refine Awp_mono c (thenA_mono (fun s' q => Gq_mono (fun s'' q => ⟨⟨j, q⟩, ?_⟩) q) fun _ _ q => q) h1
    have := (hμ s'' ⟨j, q⟩).2 j q
    omega
theorem LoopT_s {c : Code} {Q : Exit → St → Prop} {s : St} {n : Nat} (h : ∀ K : St → Prop, Kont K (Gq E k mv (LoopT E k mv c Q n)) → Awp E k mv c (thenA K Q) s) : LoopT E k mv c Q (n + 1) s := h _ fun _ h => h
end
end Go.Proofs.YtogfcpaalcebdaaE
