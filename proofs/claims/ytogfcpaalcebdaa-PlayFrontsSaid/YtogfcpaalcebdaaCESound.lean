/- What ir.Sound computes, plainly; rules for small memories. -/
import Derived.Test.YtogfcpaalcebdaaCEMk
namespace Go.Proofs.YtogfcpaalcebdaaE
open Go Go.RowKit
set_option linter.unusedVariables false
set_option linter.unusedSimpArgs false
set_option maxRecDepth 1000000
theorem wrap_small {n : Int} (h0 : 0 ≤ n) (h1 : n < 2000000) : IntKind.i64.wrap n = n := by rw [IntKind.wrap_i64]; omega
@[reducible] def nS (s : ByteArray) : V := .c (.sc (.string s))
@[reducible] def nE (n : Int) : V := .c (.sc (.int .u16 n))
def outF (n lo hi : Int) : Bool := decide (n < lo) || decide (hi < n)
structure Shp where
  nm : ByteArray
  a : Int
  b : Int
  c : Int
  p : Bool
  q : Bool
  r : Bool
def Shp.cells (s : Shp) : List V := [nS s.nm, nU s.a, nU s.b, nU s.c, nB s.p, nB s.q, nB s.r]
def shp0 : Shp := ⟨⟨#[]⟩, 0, 0, 0, false, false, false⟩
def shT : List Shp := [⟨⟨#[110, 111, 112]⟩, 0, 0, 0, true, false, false⟩, ⟨⟨#[99, 111, 110, 115, 116]⟩, 2, 1, 0, true, false, false⟩, ⟨⟨#[109, 111, 118, 101]⟩, 2, 3, 0, true, false, false⟩, ⟨⟨#[97, 100, 100]⟩, 2, 3, 3, true, false, false⟩, ⟨⟨#[115, 117, 98]⟩, 2, 3, 3, true, false, false⟩, ⟨⟨#[109, 117, 108]⟩, 2, 3, 3, true, false, false⟩, ⟨⟨#[108, 101, 115, 115]⟩, 2, 3, 3, true, false, false⟩, ⟨⟨#[108, 111, 97, 100]⟩, 2, 4, 0, true, false, false⟩, ⟨⟨#[115, 116, 111, 114, 101]⟩, 4, 3, 0, true, false, false⟩, ⟨⟨#[112, 114, 105, 110, 116]⟩, 3, 0, 0, false, false, false⟩, ⟨⟨#[106, 117, 109, 112]⟩, 5, 0, 0, false, false, false⟩, ⟨⟨#[122, 101, 114, 111]⟩, 3, 5, 0, false, false, false⟩, ⟨⟨#[103, 111]⟩, 6, 0, 0, false, false, true⟩, ⟨⟨#[108, 111, 99, 107]⟩, 7, 0, 0, false, true, false⟩, ⟨⟨#[117, 110, 108, 111, 99, 107]⟩, 7, 0, 0, false, false, true⟩, ⟨⟨#[114, 108, 111, 99, 107]⟩, 7, 0, 0, false, true, false⟩, ⟨⟨#[114, 117, 110, 108, 111, 99, 107]⟩, 7, 0, 0, false, false, true⟩, ⟨⟨#[114, 101, 97, 100]⟩, 2, 8, 0, false, true, false⟩, ⟨⟨#[119, 114, 105, 116, 101]⟩, 8, 3, 0, false, false, true⟩, ⟨⟨#[98, 117, 109, 112]⟩, 2, 8, 3, false, true, true⟩, ⟨⟨#[115, 101, 110, 100]⟩, 9, 3, 0, false, true, true⟩, ⟨⟨#[114, 101, 99, 118]⟩, 2, 9, 0, false, true, true⟩, ⟨⟨#[112, 111, 108, 108]⟩, 2, 9, 2, false, true, true⟩, ⟨⟨#[99, 108, 111, 115, 101]⟩, 9, 0, 0, false, false, true⟩, ⟨⟨#[103, 114, 111, 119]⟩, 10, 1, 0, false, false, true⟩, ⟨⟨#[119, 97, 105, 116]⟩, 10, 0, 0, false, true, false⟩, ⟨⟨#[98, 101, 103, 105, 110]⟩, 2, 11, 0, false, true, false⟩, ⟨⟨#[101, 110, 100]⟩, 11, 0, 0, false, false, true⟩]
def shAt (op : Int) : Shp := shT.getD op.toNat shp0
def shC : List V := (shT.map Shp.cells).flatten
theorem shC_len : shC.length = 196 := rfl
theorem shC_at {op : Int} (h0 : 0 ≤ op) (h1 : op < 28) : (shC.drop (op.toNat * 7)).take 7 = (shAt op).cells := by
  have : ∀ n : Nat, n < 28 → (shC.drop (n * 7)).take 7 = (shT.getD n shp0).cells := fun n hn => by
    match n, hn with
    | 0, _ => rfl
    | 1, _ => rfl
    | 2, _ => rfl
    | 3, _ => rfl
    | 4, _ => rfl
    | 5, _ => rfl
    | 6, _ => rfl
    | 7, _ => rfl
    | 8, _ => rfl
    | 9, _ => rfl
    | 10, _ => rfl
    | 11, _ => rfl
    | 12, _ => rfl
    | 13, _ => rfl
    | 14, _ => rfl
    | 15, _ => rfl
    | 16, _ => rfl
    | 17, _ => rfl
    | 18, _ => rfl
    | 19, _ => rfl
    | 20, _ => rfl
    | 21, _ => rfl
    | 22, _ => rfl
    | 23, _ => rfl
    | 24, _ => rfl
    | 25, _ => rfl
    | 26, _ => rfl
    | 27, _ => rfl
    | n + 28, hn => exact absurd hn (by omega)
  exact this op.toNat (by omega)
def limF (p : Prg) (code : Int) : List (Int × Int) := [(11, p.onces), (10, p.groups), (9, p.chans.length), (8, p.atoms), (7, p.locks), (6, p.code.length), (5, IntKind.i64.wrap (code + 1)), (4, p.vars), (3, 4), (2, 4)]
def insA (l : List (Int × Int)) (w n : Int) : Bool := (((mget l w).isSome && (decide (n < 0) || decide ((mget l w).getD 0 ≤ n))) || (w == 6 && n == 0))
def insF (l : List (Int × Int)) (i : Ins) : Int :=
  if (28 ≤ i.op) ∨ ((shAt i.op).a = 0 ∧ i.a ≠ 0) ∨ ((shAt i.op).b = 0 ∧ i.b ≠ 0) ∨ ((shAt i.op).c = 0 ∧ i.c ≠ 0) then 20
  else if insA l (shAt i.op).a i.a || insA l (shAt i.op).b i.b || insA l (shAt i.op).c i.c then 21 else 0
def codeF (l : List (Int × Int)) : List Ins → Int
  | [] => 0
  | i :: r => if insF l i = 0 then codeF l r else insF l i
def codesF (p : Prg) : List (List Ins) → Int
  | [] => 0
  | c :: r => if codeF (limF p c.length) c = 0 then codesF p r else codeF (limF p c.length) c
def soundF (p : Prg) : Int :=
  if outF p.vars 0 8 || outF p.atoms 0 4 || outF p.locks 0 4 || outF p.groups 0 4 || outF p.onces 0 4 || outF p.chans.length 0 4 || outF p.code.length 1 6 || p.code.any (fun c => decide (60 < c.length)) then 3
  else if p.chans.any (fun n => outF n 1 3) then 21
  else codesF p p.code
/-! ### small memories -/
section
variable {m : Mem2} {t : TypeId} {id k off : Nat} {x : V} {cs : List V}
theorem ldP : aLoad tab m t (.ptr id k off) = match look tab t with
    | some i => (match i.ag with
      | true => (match getN m id k off i.n with
        | some l => some (.agg l)
        | none => none)
      | false => get1 m id k off)
    | none => none := rfl
theorem g1P (h : obGet m id = some (.box cs)) : get1 m id 0 off = cs[off]? := by unfold get1; rw [h]
theorem g1Q : get1 m id 0 off = match obGet m id with
    | some (.box cs) => cs[off]?
    | some (.arr s es) => (match es[0]? with
      | some row => (match row[off]? with
        | some x => some (.c x)
        | none => none)
      | none => none)
    | some (.arw s es) => (match es[0]? with
      | some row => (match row[off]? with
        | some (D.p x) => some (.c x)
        | some (D.ow r ver) => some (.rw id 0 off ver 0 r.length)
        | _ => none)
      | none => none)
    | _ => none := rfl
theorem obP : obGet m id = match m[id]? with
    | some (some o) => some o
    | _ => none := rfl
theorem stP : aStore tab m t (.ptr id k off) x = match look tab t with
    | some i => (match cellsV x with
      | some xs => bif Nat.beq xs.length i.n then storeN m id k off xs else none
      | none => none)
    | none => none := rfl
theorem s1P : store1 m id 0 off x = match obGet m id with
    | some (.box cs) => bif Nat.blt off cs.length then some (m.set id (some (.box (cs.set off x)))) else none
    | some (.arr s es) => (match toC x with
      | some y => (match es[0]? with
        | some row => bif Nat.blt off row.length then some (m.set id (some (.arr s (es.set 0 (row.set off y))))) else none
        | none => none)
      | none => none)
    | some (.arw s es) => (match toC x with
      | some y => (match es[0]? with
        | some row => bif Nat.blt off row.length then some (m.set id (some (.arw s (es.set 0 (row.set off (.p y)))))) else none
        | none => none)
      | none => none)
    | _ => none := by unfold store1; rfl
theorem set_get_self {m : Mem2} {id : Nat} {o : Option Ob} (h : m[id]? = some o) : m.set id o = m := by
  obtain ⟨h1, h2⟩ := List.getElem?_eq_some_iff.1 h
  subst h2
  simp
theorem ldQ {o0 : Option Ob} : aLoad tab (o0 :: m) t (.ptr id k off) = match look tab t with
    | some i => (match i.ag with
      | true => (match getN (o0 :: m) id k off i.n with
        | some l => some (.agg l)
        | none => none)
      | false => get1 (o0 :: m) id k off)
    | none => none := rfl
theorem g1R {o0 : Option Ob} : get1 (o0 :: m) id 0 off = match obGet (o0 :: m) id with
    | some (.box cs) => cs[off]?
    | some (.arr s es) => (match es[0]? with
      | some row => (match row[off]? with
        | some x => some (.c x)
        | none => none)
      | none => none)
    | some (.arw s es) => (match es[0]? with
      | some row => (match row[off]? with
        | some (D.p x) => some (.c x)
        | some (D.ow r ver) => some (.rw id 0 off ver 0 r.length)
        | _ => none)
      | none => none)
    | _ => none := rfl
theorem obQ {o0 : Option Ob} : obGet (o0 :: m) id = match (o0 :: m)[id]? with
    | some (some o) => some o
    | _ => none := rfl
theorem stQ {o0 : Option Ob} : aStore tab (o0 :: m) t (.ptr id k off) x = match look tab t with
    | some i => (match cellsV x with
      | some xs => bif Nat.beq xs.length i.n then storeN (o0 :: m) id k off xs else none
      | none => none)
    | none => none := rfl
theorem s1Q {o0 : Option Ob} : store1 (o0 :: m) id 0 off x = match obGet (o0 :: m) id with
    | some (.box cs) => bif Nat.blt off cs.length then some ((o0 :: m).set id (some (.box (cs.set off x)))) else none
    | some (.arr s es) => (match toC x with
      | some y => (match es[0]? with
        | some row => bif Nat.blt off row.length then some ((o0 :: m).set id (some (.arr s (es.set 0 (row.set off y))))) else none
        | none => none)
      | none => none)
    | some (.arw s es) => (match toC x with
      | some y => (match es[0]? with
        | some row => bif Nat.blt off row.length then some ((o0 :: m).set id (some (.arw s (es.set 0 (row.set off (.p y)))))) else none
        | none => none)
      | none => none)
    | _ => none := by unfold store1; rfl
theorem stN_at : ∀ (xs : List V) (m : Mem2) (cs : List V) (off : Nat), obGet m id = some (.box cs) → off + xs.length ≤ cs.length → storeN m id 0 off xs = some (m.set id (some (.box (cs.take off ++ xs ++ cs.drop (off + xs.length)))))
  | [], m, cs, off, h, hl => by
    unfold storeN
    simp only [List.append_nil, List.length_nil, Nat.add_zero, List.take_append_drop]
    have := obGet_eq h
    rw [set_get_self this]
  | x :: r, m, cs, off, h, hl => by
    unfold storeN store1
    rw [List.length_cons] at hl
    rw [h]
    have hb : Nat.blt off cs.length = true := by simpa using (by omega : off < cs.length)
    simp only [hb, cond_true]
    have hid := (List.getElem?_eq_some_iff.1 (obGet_eq h)).1
    have hg : obGet (m.set id (some (.box (cs.set off x)))) id = some (.box (cs.set off x)) := by
      unfold obGet
      rw [List.getElem?_set, if_pos rfl, if_pos hid]
    rw [stN_at r _ (cs.set off x) (off + 1) hg (by rw [List.length_set]; omega), List.set_set]
    congr 4
    have e1 : (cs.set off x).take (off + 1) = cs.take off ++ [x] := by
      rw [List.take_add_one, List.take_set_of_le (Nat.le_refl _), List.getElem?_set, if_pos rfl, if_pos (by omega)]
      rfl
    have e2 : (cs.set off x).drop (off + 1 + r.length) = cs.drop (off + (r.length + 1)) := by
      rw [List.drop_set_of_lt (by omega), show off + 1 + r.length = off + (r.length + 1) by omega]
    rw [e1, e2, List.length_cons]
    simp
theorem stAll {i : TI} {xs : List V} (hl : look tab t = some i) (hx : cellsV x = some xs) (hn : xs.length = i.n) (h : obGet m id = some (.box cs)) (hc : cs.length = i.n) : aStore tab m t (.ptr id 0 0) x = some (m.set id (some (.box xs))) := by
  unfold aStore
  rw [hl, hx]
  dsimp only
  have hb : Nat.beq xs.length i.n = true := by rw [hn]; simp
  rw [hb]
  dsimp only [cond_true]
  rw [stN_at xs m cs 0 h (by omega)]
  have e : cs.drop xs.length = [] := List.drop_eq_nil_of_le (by omega)
  simp [e]
theorem gN_at (h : obGet m id = some (.box cs)) : ∀ (n off : Nat), off + n ≤ cs.length → getN m id 0 off n = some ((cs.drop off).take n)
  | 0, off, hl => by simp [getN]
  | n + 1, off, hl => by
    have hlt : off < cs.length := by omega
    unfold getN
    rw [g1P h, List.getElem?_eq_getElem hlt, gN_at h n (off + 1) (by omega)]
    dsimp only
    rw [List.drop_eq_getElem_cons hlt, List.take_succ_cons]
theorem ldPart {i : TI} (hl : look tab t = some i) (ha : i.ag = true) (h : obGet m id = some (.box cs)) (hn : off + i.n ≤ cs.length) : aLoad tab m t (.ptr id 0 off) = some (.agg ((cs.drop off).take i.n)) := by
  rw [ldP, hl]
  dsimp only
  rw [ha]
  dsimp only
  rw [gN_at h _ _ hn]
end
section
variable {E : Env} {f : FuncId} {xs xs' : List V} {x x' : V} {m mc : Mem2} {k : V → Mem2 → Prop} {N : Nat} {A : Nat → V} {ops : List Oper} {K : St → Prop} {r : List Oper} {nid : Nat} {ty : TypeId} {pos : String} {aft : Array Edge}
theorem call_l (L : List Nat) (hL : nodupL L = true) (hf : footM m (fun id => posOf id L) L = some mc) (hS : E.S f xs' mc (pt x mc [])) (ha : renL (fun id => posOf id L) xs = some xs') (hr : ren (fun j => L[j]?) x = some x') (hk : k x' m) : WCall E (.fn f []) xs m k := by
  obtain ⟨h1, h2⟩ := quiet_back (nodupL_ok hL) hf
  refine ⟨f, [], L, mc, xs', _, rfl, nodupL_ok hL, hf, by rw [List.append_nil]; exact ha, hS, ⟨x, mc, [], rfl, rfl, rfl⟩, fun r mc' mv ⟨e1, e2, e3⟩ => ?_⟩
  subst e1 e2 e3
  refine ⟨.nil, fun j hj => (by cases hj), m, x', h2, ?_, hk⟩
  rw [h1]
  exact hr
theorem call_pp {P : V → Mem2 → Prop} (hS : E.S f xs [] (pq P [])) (ha : renL (fun _ => none) xs = some xs) (hne : ∃ r, P r []) (hk : ∀ r a, P r a → a = [] ∧ ren (fun _ => none) r = some r ∧ k r m) : WCall E (.fn f []) xs m k := by
  obtain ⟨r0, h0⟩ := hne
  refine ⟨f, [], [], [], xs, _, rfl, .nil, rfl, by rw [List.append_nil]; exact ha, hS, ⟨r0, [], [], h0, rfl⟩, fun r mc' mv ⟨e1, e3⟩ => ?_⟩
  subst e3
  obtain ⟨g1, g2, g3⟩ := hk r mc' e1
  subst g1
  exact ⟨.nil, fun j hj => (by cases hj), _, r, back0, g2, g3⟩
theorem someIdx (p : Bool) : ∃ n : Int, decide (0 ≤ n) = p := ⟨if p then 0 else -1, by cases p <;> rfl⟩
theorem call_mp {l : List (Int × Int)} (hS : E.S f xs [] (pt (.mp 0) [some (.mp l)] [])) (ha : renL (fun _ => none) xs = some xs) (hk : k (.mp m.length) (m ++ [some (.mp l)])) : WCall E (.fn f []) xs m k := by
  refine ⟨f, [], [], [], xs, _, rfl, .nil, rfl, by rw [List.append_nil]; exact ha, hS, ⟨_, _, [], rfl, rfl, rfl⟩, fun r mc' mv ⟨e1, e2, e3⟩ => ?_⟩
  subst e1 e2 e3
  refine ⟨.nil, fun j hj => (by cases hj), m ++ [some (.mp l)], .mp m.length, ?_, rfl, hk⟩
  unfold backM
  rw [backA_nil]
  rfl
theorem wl_stAll {t : TypeId} {p q : Operand} {i : TI} {id : Nat} {cs ys : List V} (hp : ev A p = .ptr id 0 0) (hl : look tab t = some i) (hx : cellsV (ev A q) = some ys) (hn : ys.length = i.n) (h : obGet m id = some (.box cs)) (hc : cs.length = i.n) {S : Spec} (hK : Wl (env N S) ops K r nid ⟨A, m.set id (some (.box ys))⟩) : Wl (env N S) ops K (⟨none, .store t p q, ty, pos, aft, none⟩ :: r) nid ⟨A, m⟩ := by
  refine .inl ⟨_, ?_, hK⟩
  rw [hp]
  exact stAll hl hx hn h hc
theorem wv_eq {d : Nat} {S : Spec} {o : Option V} {v : V} (h : o = some v) (hK : WV (env N S) ops K r nid A m d (some v)) : WV (env N S) ops K r nid A m d o := by rw [h]; exact hK
end
def wdj (s : Shp) : Nat → Int
  | 0 => s.a
  | 1 => s.b
  | _ => s.c
def nmj (i : Ins) : Nat → Int
  | 0 => i.a
  | 1 => i.b
  | _ => i.c
theorem wdj_get {s : Shp} {j : Nat} (h : j < 3) : [nU s.a, nU s.b, nU s.c][j]? = some (nU (wdj s j)) := by
  match j, h with
  | 0, _ => rfl
  | 1, _ => rfl
  | 2, _ => rfl
theorem nmj_get {i : Ins} {j : Nat} (h : j < 3) : [nI i.a, nI i.b, nI i.c][j]? = some (nI (nmj i j)) := by
  match j, h with
  | 0, _ => rfl
  | 1, _ => rfl
  | 2, _ => rfl
theorem insF_20 {l : List (Int × Int)} {i : Ins} {j : Nat} (hj : j < 3) (h : 28 ≤ i.op ∨ (wdj (shAt i.op) j = 0 ∧ nmj i j ≠ 0)) : insF l i = 20 := by
  unfold insF
  refine if_pos ?_
  match j, hj with
  | 0, _ => exact h.elim .inl fun h => .inr (.inl h)
  | 1, _ => exact h.elim .inl fun h => .inr (.inr (.inl h))
  | 2, _ => exact h.elim .inl fun h => .inr (.inr (.inr h))
theorem insF_n20 {l : List (Int × Int)} {i : Ins} (h : ∀ j, j < 3 → ¬ (28 ≤ i.op ∨ (wdj (shAt i.op) j = 0 ∧ nmj i j ≠ 0))) : insF l i = (if insA l (shAt i.op).a i.a || insA l (shAt i.op).b i.b || insA l (shAt i.op).c i.c then 21 else 0) := by
  unfold insF
  refine if_neg ?_
  rintro (q | q | q | q)
  · exact h 0 (by omega) (.inl q)
  · exact h 0 (by omega) (.inr q)
  · exact h 1 (by omega) (.inr q)
  · exact h 2 (by omega) (.inr q)
theorem insF_21 {l : List (Int × Int)} {i : Ins} {j : Nat} (h : ∀ j, j < 3 → ¬ (28 ≤ i.op ∨ (wdj (shAt i.op) j = 0 ∧ nmj i j ≠ 0))) (hj : j < 3) (ha : insA l (wdj (shAt i.op) j) (nmj i j) = true) : insF l i = 21 := by
  rw [insF_n20 h]
  refine if_pos ?_
  match j, hj with
  | 0, _ => simp only [wdj, nmj] at ha; simp [ha]
  | 1, _ => simp only [wdj, nmj] at ha; simp [ha]
  | 2, _ => simp only [wdj, nmj] at ha; simp [ha]
theorem insF_0 {l : List (Int × Int)} {i : Ins} (h : ∀ j, j < 3 → ¬ (28 ≤ i.op ∨ (wdj (shAt i.op) j = 0 ∧ nmj i j ≠ 0))) (ha : ∀ j, j < 3 → insA l (wdj (shAt i.op) j) (nmj i j) = false) : insF l i = 0 := by
  rw [insF_n20 h]
  have h0 := ha 0 (by omega)
  have h1 := ha 1 (by omega)
  have h2 := ha 2 (by omega)
  simp only [wdj, nmj] at h0 h1 h2
  simp [h0, h1, h2]
theorem cv53 {n : Int} : pConv tab 5 3 (nU n) = some (nI (IntKind.i64.wrap n)) := rfl
theorem shp0c : shp0.cells = [nS ⟨#[]⟩, nU 0, nU 0, nU 0, nB false, nB false, nB false] := rfl
@[simp] theorem encI_len {l : List Int} : (encI l).length = l.length := by simp [encI]
def isC : V → Bool
  | .c _ => true
  | _ => false
theorem renL_c {ρ : Nat → Option Nat} : ∀ {l : List V}, l.all isC = true → renL ρ l = some l
  | [], _ => rfl
  | .c x :: r, h => by
    simp only [List.all_cons, Bool.and_eq_true] at h
    unfold renL ren
    dsimp only
    rw [renL_c h.2]
  | .any :: _, h | .nl :: _, h | .ic _ :: _, h | .ptr _ _ _ :: _, h | .at _ :: _, h | .sl _ _ _ _ _ :: _, h | .rw _ _ _ _ _ _ :: _, h | .rp _ _ _ _ _ :: _, h | .agg _ :: _, h | .tup _ :: _, h | .fn _ _ :: _, h | .mp _ :: _, h | .bb :: _, h => by simp [isC] at h
theorem ren_shC {ρ : Nat → Option Nat} : ren ρ (.agg shC) = some (.agg shC) := by
  unfold ren
  rw [renL_c (show shC.all isC = true from rfl)]
  rfl
/-! ### what is built -/
theorem bs0 : pBuild tab 120 [] = some (.agg shp0.cells) := rfl
theorem bs02 {s : ByteArray} {p : Bool} : pBuild tab 120 [(0, nS s), (2, nB p)] = some (.agg [nS s, nU 0, nU 0, nU 0, nB p, nB false, nB false]) := rfl
theorem bs01 {s : ByteArray} {a b c : Int} : pBuild tab 120 [(0, nS s), (1, .agg [nU a, nU b, nU c])] = some (.agg [nS s, nU a, nU b, nU c, nB false, nB false, nB false]) := rfl
theorem bs012 {s : ByteArray} {a b c : Int} {p : Bool} : pBuild tab 120 [(0, nS s), (1, .agg [nU a, nU b, nU c]), (2, nB p)] = some (.agg [nS s, nU a, nU b, nU c, nB p, nB false, nB false]) := rfl
theorem bs013 {s : ByteArray} {a b c : Int} {p : Bool} : pBuild tab 120 [(0, nS s), (1, .agg [nU a, nU b, nU c]), (3, nB p)] = some (.agg [nS s, nU a, nU b, nU c, nB false, nB p, nB false]) := rfl
theorem bs014 {s : ByteArray} {a b c : Int} {p : Bool} : pBuild tab 120 [(0, nS s), (1, .agg [nU a, nU b, nU c]), (4, nB p)] = some (.agg [nS s, nU a, nU b, nU c, nB false, nB false, nB p]) := rfl
theorem bs0134 {s : ByteArray} {a b c : Int} {p q : Bool} : pBuild tab 120 [(0, nS s), (1, .agg [nU a, nU b, nU c]), (3, nB p), (4, nB q)] = some (.agg [nS s, nU a, nU b, nU c, nB false, nB p, nB q]) := rfl
theorem bs01234 {s : ByteArray} {a b c : Int} {p q r : Bool} : pBuild tab 120 [(0, nS s), (1, .agg [nU a, nU b, nU c]), (2, nB p), (3, nB q), (4, nB r)] = some (.agg [nS s, nU a, nU b, nU c, nB p, nB q, nB r]) := rfl
theorem bw1 {a : Int} : pBuild tab 118 [(0, nU a)] = some (.agg [nU a, nU 0, nU 0]) := rfl
theorem bw2 {a b : Int} : pBuild tab 118 [(0, nU a), (1, nU b)] = some (.agg [nU a, nU b, nU 0]) := rfl
theorem bw3 {a b c : Int} : pBuild tab 118 [(0, nU a), (1, nU b), (2, nU c)] = some (.agg [nU a, nU b, nU c]) := rfl
theorem bi3 {a b c : Int} : pBuild tab 123 [(0, nI a), (1, nI b), (2, nI c)] = some (.agg [nI a, nI b, nI c]) := rfl
theorem ix3 {w0 w1 w2 : Int} {n : Int} : pIndex tab 118 (.agg [nU w0, nU w1, nU w2]) (nI n) = if 0 ≤ n ∧ n < 3 then [nU w0, nU w1, nU w2][n.toNat]? else none := by
  show (if 0 ≤ n ∧ n < ((3 : Nat) : Int) then [nU w0, nU w1, nU w2][n.toNat * 1]? else none) = _
  rw [Nat.mul_one]
  rfl
theorem ia3 {id k off : Nat} {n : Int} : pIndexAddr tab 123 (.ptr id k off) (nI n) = if 0 ≤ n ∧ n < 3 then some (.ptr id k (off + n.toNat)) else none := by
  show (if 0 ≤ n ∧ n < ((3 : Nat) : Int) then some (V.ptr id k (off + n.toNat * 1)) else none) = _
  rw [Nat.mul_one]
  rfl
theorem ia28 {id k off : Nat} {n : Int} : pIndexAddr tab 125 (.ptr id k off) (nU n) = if 0 ≤ n ∧ n < 28 then some (.ptr id k (off + n.toNat * 7)) else none := rfl
theorem mapt : MapT Try.prog 107 := ⟨_, _, Try.underlying107, Try.underlying117, fun w => by
  obtain ⟨d, info, h0, h1, _, _, h2, _⟩ := ok3.ex
  simp [zeroValue, typeInfo, h1, h2, ti3]⟩
end Go.Proofs.YtogfcpaalcebdaaE
