/- A program's state, told by plain data; its memory, and what is read and written there. -/
import Derived.Test.YtogfcpaalcebdaaCEng24
import Derived.Test.YtogfcpaalcebdaaCETab
namespace Go.Proofs.YtogfcpaalcebdaaE
open Go Go.RowKit
set_option linter.unusedVariables false
set_option linter.unusedSimpArgs false
@[reducible] def ci (n : Int) : C := .sc (.int .i64 n)
@[reducible] def nI (n : Int) : V := .c (.sc (.int .i64 n))
@[reducible] def nU (n : Int) : V := .c (.sc (.int .u8 n))
@[reducible] def nB (b : Bool) : V := .c (.sc (.bool b))
@[reducible] def cb (b : Bool) : C := .sc (.bool b)
def ro (r : Int) : Nat := 2 + r.toNat
structure Ins where
 op : Int
 a : Int
 b : Int
 c : Int
deriving DecidableEq
def Ins.enc (i : Ins) : List C := [.sc (.int .u8 i.op), ci i.a, ci i.b, ci i.c]
structure Prg where
 vars : Int
 atoms : Int
 locks : Int
 chans : List Int
 groups : Int
 onces : Int
 code : List (List Ins)
deriving DecidableEq
def encI (l : List Int) : List (List C) := l.map fun n => [ci n]
def encC (l : List Ins) : List C := [.ls (l.map Ins.enc)]
def Prg.cells (p : Prg) : List V := [nI p.vars, nI p.atoms, nI p.locks, .c (.ls (encI p.chans)), nI p.groups, nI p.onces, .c (.ls (p.code.map encC))]
structure Th where
 began : Bool
 at_ : Int
 regs : List Int
deriving DecidableEq
def Th.enc (t : Th) : List C := cb t.began :: ci t.at_ :: t.regs.map ci
structure Ch where
 row : List Int
 ver : Nat
 closed : Bool
def Ch.enc (c : Ch) : List D := [.ow (c.row.map ci) c.ver, .p (cb c.closed)]
structure Sg where
 p : Prg
 th : List Th
 vars : List Int
 atoms : List Int
 locks : List Int
 ch : List Ch
 groups : List Int
 onces : List Int
 told : List Int
 trapped : Bool
def stBox (σ : Sg) : List V := σ.p.cells ++ [.sl 1 6 0 σ.th.length false, .sl 2 1 0 σ.vars.length false, .sl 3 1 0 σ.atoms.length false, .sl 4 1 0 σ.locks.length false, .sl 5 2 0 σ.ch.length false, .sl 6 1 0 σ.groups.length false, .sl 7 1 0 σ.onces.length false, .sl 8 1 0 σ.told.length false, nB σ.trapped]
def M (σ : Sg) (ext : Mem2) : Mem2 := some (.box (stBox σ)) :: some (.arr 6 (σ.th.map Th.enc)) :: some (.arr 1 (encI σ.vars)) :: some (.arr 1 (encI σ.atoms)) :: some (.arr 1 (encI σ.locks)) :: some (.arw 2 (σ.ch.map Ch.enc)) :: some (.arr 1 (encI σ.groups)) :: some (.arr 1 (encI σ.onces)) :: some (.arr 1 (encI σ.told)) :: ext
section
variable {σ : Sg} {ext : Mem2}
theorem M_len : (M σ ext).length = ext.length + 9 := rfl
theorem M_app (l : Mem2) : M σ ext ++ l = M σ (ext ++ l) := rfl
/-! ### reading the state -/
theorem rd_0 : aLoad tab (M σ ext) 3 (.ptr 0 0 0) = some (nI σ.p.vars) := rfl
theorem rd_1 : aLoad tab (M σ ext) 3 (.ptr 0 0 1) = some (nI σ.p.atoms) := rfl
theorem rd_2 : aLoad tab (M σ ext) 3 (.ptr 0 0 2) = some (nI σ.p.locks) := rfl
theorem rd_3 : aLoad tab (M σ ext) 23 (.ptr 0 0 3) = some (.c (.ls (encI σ.p.chans))) := rfl
theorem rd_6 : aLoad tab (M σ ext) 24 (.ptr 0 0 6) = some (.c (.ls (σ.p.code.map encC))) := rfl
theorem rd_7 : aLoad tab (M σ ext) 79 (.ptr 0 0 7) = some (.sl 1 6 0 σ.th.length false) := rfl
theorem rd_8 : aLoad tab (M σ ext) 23 (.ptr 0 0 8) = some (.sl 2 1 0 σ.vars.length false) := rfl
theorem rd_9 : aLoad tab (M σ ext) 23 (.ptr 0 0 9) = some (.sl 3 1 0 σ.atoms.length false) := rfl
theorem rd_10 : aLoad tab (M σ ext) 23 (.ptr 0 0 10) = some (.sl 4 1 0 σ.locks.length false) := rfl
theorem rd_11 : aLoad tab (M σ ext) 80 (.ptr 0 0 11) = some (.sl 5 2 0 σ.ch.length false) := rfl
theorem rd_12 : aLoad tab (M σ ext) 23 (.ptr 0 0 12) = some (.sl 6 1 0 σ.groups.length false) := rfl
theorem rd_13 : aLoad tab (M σ ext) 23 (.ptr 0 0 13) = some (.sl 7 1 0 σ.onces.length false) := rfl
theorem rd_14 : aLoad tab (M σ ext) 23 (.ptr 0 0 14) = some (.sl 8 1 0 σ.told.length false) := rfl
theorem rd_15 : aLoad tab (M σ ext) 4 (.ptr 0 0 15) = some (nB σ.trapped) := rfl
theorem rd_began {k : Nat} {t : Th} (h : σ.th[k]? = some t) : aLoad tab (M σ ext) 4 (.ptr 1 k 0) = some (nB t.began) := by
 show get1 (M σ ext) 1 k 0 = _
 unfold get1; rw [show obGet (M σ ext) 1 = some (.arr 6 (σ.th.map Th.enc)) from rfl]
 simp [h, Th.enc, nB]
theorem rd_at {k : Nat} {t : Th} (h : σ.th[k]? = some t) : aLoad tab (M σ ext) 3 (.ptr 1 k 1) = some (nI t.at_) := by
 show get1 (M σ ext) 1 k 1 = _
 unfold get1; rw [show obGet (M σ ext) 1 = some (.arr 6 (σ.th.map Th.enc)) from rfl]
 simp [h, Th.enc, nI]
theorem rd_reg {k : Nat} {r : Int} {t : Th} {x : Int} (h : σ.th[k]? = some t) (hx : t.regs[r.toNat]? = some x) : aLoad tab (M σ ext) 3 (.ptr 1 k (ro r)) = some (nI x) := by
 show get1 (M σ ext) 1 k (2 + r.toNat) = _
 unfold get1; rw [show obGet (M σ ext) 1 = some (.arr 6 (σ.th.map Th.enc)) from rfl]
 simp [h, Th.enc, nI, Nat.add_comm 2 r.toNat, hx]
theorem rd_num {id : Nat} {l : List Int} {k : Nat} {x : Int} (ho : obGet (M σ ext) id = some (.arr 1 (encI l))) (h : l[k]? = some x) : aLoad tab (M σ ext) 3 (.ptr id k 0) = some (nI x) := by
 show get1 (M σ ext) id k 0 = _
 unfold get1; rw [ho]
 simp [encI, h, nI]
theorem rd_var {k : Nat} {x : Int} (h : σ.vars[k]? = some x) : aLoad tab (M σ ext) 3 (.ptr 2 k 0) = some (nI x) := rd_num rfl h
theorem rd_atom {k : Nat} {x : Int} (h : σ.atoms[k]? = some x) : aLoad tab (M σ ext) 3 (.ptr 3 k 0) = some (nI x) := rd_num rfl h
theorem rd_lock {k : Nat} {x : Int} (h : σ.locks[k]? = some x) : aLoad tab (M σ ext) 3 (.ptr 4 k 0) = some (nI x) := rd_num rfl h
theorem rd_group {k : Nat} {x : Int} (h : σ.groups[k]? = some x) : aLoad tab (M σ ext) 3 (.ptr 6 k 0) = some (nI x) := rd_num rfl h
theorem rd_once {k : Nat} {x : Int} (h : σ.onces[k]? = some x) : aLoad tab (M σ ext) 3 (.ptr 7 k 0) = some (nI x) := rd_num rfl h
theorem rd_row {k : Nat} {c : Ch} (h : σ.ch[k]? = some c) : aLoad tab (M σ ext) 23 (.ptr 5 k 0) = some (.rw 5 k 0 c.ver 0 c.row.length) := by
 show get1 (M σ ext) 5 k 0 = _
 unfold get1; rw [show obGet (M σ ext) 5 = some (.arw 2 (σ.ch.map Ch.enc)) from rfl]
 simp [h, Ch.enc]
theorem rd_closed {k : Nat} {c : Ch} (h : σ.ch[k]? = some c) : aLoad tab (M σ ext) 4 (.ptr 5 k 1) = some (nB c.closed) := by
 show get1 (M σ ext) 5 k 1 = _
 unfold get1; rw [show obGet (M σ ext) 5 = some (.arw 2 (σ.ch.map Ch.enc)) from rfl]
 simp [h, Ch.enc, nB]
theorem rd_chan {k : Nat} {c : Ch} (h : σ.ch[k]? = some c) : aLoad tab (M σ ext) 100 (.ptr 5 k 0) = some (.agg [.rw 5 k 0 c.ver 0 c.row.length, nB c.closed]) := by
 have h0 : get1 (M σ ext) 5 k 0 = some (.rw 5 k 0 c.ver 0 c.row.length) := by
  unfold get1; rw [show obGet (M σ ext) 5 = some (.arw 2 (σ.ch.map Ch.enc)) from rfl]
  simp [h, Ch.enc]
 have h1 : get1 (M σ ext) 5 k 1 = some (nB c.closed) := by
  unfold get1; rw [show obGet (M σ ext) 5 = some (.arw 2 (σ.ch.map Ch.enc)) from rfl]
  simp [h, Ch.enc, nB]
 show (match getN (M σ ext) 5 k 0 2 with
 | some l => some (V.agg l)
 | none => none) = _
 simp only [getN, h0, h1]
theorem rd_rowc {k q : Nat} {c : Ch} {x : Int} (h : σ.ch[k]? = some c) (hx : c.row[q]? = some x) : aLoad tab (M σ ext) 3 (.rp 5 k 0 c.ver q) = some (nI x) := by
 show getR (M σ ext) 5 k 0 c.ver q = _
 unfold getR; rw [show obGet (M σ ext) 5 = some (.arw 2 (σ.ch.map Ch.enc)) from rfl]
 simp [h, Ch.enc, nI, hx]
end
/-! ### addresses -/
theorem ia_th {id off len : Nat} {c : Bool} {n : Int} : pIndexAddr tab 79 (.sl id 6 off len c) (nI n) = if 0 ≤ n ∧ n < (len : Int) then some (.ptr id (off + n.toNat) 0) else none := by
 show (if 0 ≤ n ∧ n < (len : Int) ∧ 6 = 6 then some (V.ptr id (off + n.toNat) 0) else none) = _
 simp
theorem ia_int {id off len : Nat} {c : Bool} {n : Int} : pIndexAddr tab 23 (.sl id 1 off len c) (nI n) = if 0 ≤ n ∧ n < (len : Int) then some (.ptr id (off + n.toNat) 0) else none := by
 show (if 0 ≤ n ∧ n < (len : Int) ∧ 1 = 1 then some (V.ptr id (off + n.toNat) 0) else none) = _
 simp
theorem ia_ch {id off len : Nat} {c : Bool} {n : Int} : pIndexAddr tab 80 (.sl id 2 off len c) (nI n) = if 0 ≤ n ∧ n < (len : Int) then some (.ptr id (off + n.toNat) 0) else none := by
 show (if 0 ≤ n ∧ n < (len : Int) ∧ 2 = 2 then some (V.ptr id (off + n.toNat) 0) else none) = _
 simp
theorem ia_rw {id i j ver off len : Nat} {n : Int} : pIndexAddr tab 23 (.rw id i j ver off len) (nI n) = if 0 ≤ n ∧ n < (len : Int) then some (.rp id i j ver (off + n.toNat)) else none := by
 show (if 0 ≤ n ∧ n < (len : Int) ∧ 1 = 1 then some (V.rp id i j ver (off + n.toNat)) else none) = _
 simp
theorem pIdx_map {α : Type} {f : α → List C} {l : List α} {i : TI} {n : Int} {x : α} (h0 : 0 ≤ n) (h : l[n.toNat]? = some x) (hf : (f x).length = i.n) : pIdx i (l.map f) n = some (.at (f x)) := by
 unfold pIdx
 split
 · omega
 · rw [List.getElem?_map, h]
   simp [hf]
theorem ia_code {l : List (List Ins)} {n : Int} {x : List Ins} (h0 : 0 ≤ n) (h : l[n.toNat]? = some x) : pIndexAddr tab 24 (.c (.ls (l.map encC))) (nI n) = some (.at (encC x)) := pIdx_map (i := ti45) h0 h rfl
theorem ia_ins {l : List Ins} {n : Int} {x : Ins} (h0 : 0 ≤ n) (h : l[n.toNat]? = some x) : pIndexAddr tab 45 (.c (.ls (l.map Ins.enc))) (nI n) = some (.at x.enc) := pIdx_map (i := ti54) h0 h rfl
theorem ia_ints {l : List Int} {n x : Int} (h0 : 0 ≤ n) (h : l[n.toNat]? = some x) : pIndexAddr tab 23 (.c (.ls (encI l))) (nI n) = some (.at [ci x]) := pIdx_map (i := ti3) h0 h rfl
theorem ia_regs {id k : Nat} {n : Int} : pIndexAddr tab 83 (.ptr id k 2) (nI n) = if 0 ≤ n ∧ n < 4 then some (.ptr id k (ro n)) else none := by
 show (if 0 ≤ n ∧ n < ((4 : Nat) : Int) then some (V.ptr id k (2 + n.toNat * 1)) else none) = _
 simp [ro]
theorem fa_state {id k off : Nat} {f : Nat} : pFieldAddr tab 82 (.ptr id k off) f = match f with | 0 => some (.ptr id k off) | 1 => some (.ptr id k (off + 7)) | 2 => some (.ptr id k (off + 8)) | 3 => some (.ptr id k (off + 9)) | 4 => some (.ptr id k (off + 10)) | 5 => some (.ptr id k (off + 11)) | 6 => some (.ptr id k (off + 12)) | 7 => some (.ptr id k (off + 13)) | 8 => some (.ptr id k (off + 14)) | 9 => some (.ptr id k (off + 15)) | _ => none := by
 split <;> first | rfl | skip
 rename_i h0 h1 h2 h3 h4 h5 h6 h7 h8 h9
 match f with
 | 0 | 1 | 2 | 3 | 4 | 5 | 6 | 7 | 8 | 9 => simp_all
 | n + 10 => rfl
theorem ld_code {x : List Ins} {m : Mem2} : aLoad tab m 45 (.at (encC x)) = some (.c (.ls (x.map Ins.enc))) := rfl
theorem ld_ins {x : Ins} {m : Mem2} : aLoad tab m 54 (.at x.enc) = some (.agg [nU x.op, nI x.a, nI x.b, nI x.c]) := rfl
theorem ld_int {x : Int} {m : Mem2} : aLoad tab m 3 (.at [ci x]) = some (nI x) := rfl
end Go.Proofs.YtogfcpaalcebdaaE
/- A program's state: calls with it. -/
namespace Go.Proofs.YtogfcpaalcebdaaE
open Go Go.RowKit
set_option linter.unusedVariables false
set_option linter.unusedSimpArgs false
@[reducible] noncomputable def env (N : Nat) (S : Spec) : Env := ⟨Try.prog, tab, N, S⟩
def pt (x : V) (m : Mem2) (mv : List Nat) : V → Mem2 → List Nat → Prop := fun r a b => r = x ∧ a = m ∧ b = mv
def L9 : List Nat := [0, 1, 2, 3, 4, 5, 6, 7, 8]
theorem posOf9 : ∀ j, 9 ≤ j → posOf j L9 = none := fun j hj => by
 cases h : posOf j L9 with
 | none => rfl
 | some p =>
  have h1 := posOf_some h
  have : j ∈ L9 := List.mem_of_getElem? h1
  simp [L9] at this
  omega
theorem backA_out {β : Nat → Option Nat} {mv : List Nat} {mc : Mem2} : ∀ (r : Mem2) (id0 : Nat), 9 ≤ id0 → backA β L9 mv mc id0 r = some r
 | [], id0, h => rfl
 | o :: r, id0, h => by
  unfold backA
  rw [posOf9 id0 h]
  dsimp only
  rw [backA_out r (id0 + 1) (by omega)]
section
variable {E : Env} {σ σ' : Sg} {ext : Mem2} {f : FuncId} {xs : List V} {x : V} {k : V → Mem2 → Prop} {lw : Nat}
theorem foot9 : footM (M σ ext) (fun id => posOf id L9) L9 = some (M σ []) := rfl
theorem backA_app {β : Nat → Option Nat} {L mv : List Nat} {mc r b : Mem2} : ∀ (l a : Mem2) (id0 : Nat), backA β L mv mc id0 l = some a → backA β L mv mc (id0 + l.length) r = some b → backA β L mv mc id0 (l ++ r) = some (a ++ b)
 | [], a, id0, h, h2 => by cases h; exact h2
 | o :: l, a, id0, h, h2 => by
  unfold backA at h
  rw [List.cons_append]
  unfold backA
  split at h
  · rename_i o' ho
    split at h
    · rename_i l' hl
      cases h
      have := backA_app l l' (id0 + 1) hl (by rw [List.length_cons] at h2; rw [show id0 + 1 + l.length = id0 + (l.length + 1) by omega]; exact h2)
      rw [this]
      rfl
    · cases h
  · cases h
theorem back9 : backM L9 [] (M σ ext) (M σ' []) = some (M σ' ext) := by
 have h1 : backA (back L9 (newIds L9 [] (M σ' []).length) (M σ ext).length) L9 [] (M σ' []) 0 (M σ []) = some (M σ' []) := rfl
 have := backA_app (r := ext) (b := ext) (M σ []) (M σ' []) 0 h1 (backA_out ext _ (Nat.le_refl _))
 unfold backM
 rw [show M σ ext = M σ [] ++ ext from rfl] at this ⊢
 rw [this]
 show some ((M σ' [] ++ ext) ++ []) = _
 rw [List.append_nil]
 rfl
theorem call_s (hS : E.S f xs (M σ []) (pt x (M σ' []) [])) (hx : renL (fun id => posOf id L9) xs = some xs) (hr : ren (fun j => L9[j]?) x = some x) (hk : k x (M σ' ext)) : WCall E (.fn f []) xs (M σ ext) k := by
 refine ⟨f, [], L9, M σ [], xs, _, rfl, by decide, foot9, by rw [List.append_nil]; exact hx, hS, ⟨x, _, _, rfl, rfl, rfl⟩, fun r mc' mv ⟨h1, h2, h3⟩ => ?_⟩
 subst h1 h2 h3
 exact ⟨.nil, fun j hj => (by cases hj), _, r, back9, hr, hk⟩
theorem call_q (hS : E.S f xs (M σ []) (pt x (M σ []) [])) (hx : renL (fun id => posOf id L9) xs = some xs) (hr : ren (fun j => L9[j]?) x = some x) (hl : 9 ≤ lw) (hk : k x (M σ ext)) : WCallQ E lw (.fn f []) xs (M σ ext) k := by
 refine ⟨f, [], L9, M σ [], xs, _, rfl, by decide, fun id hid => ?_, foot9, by rw [List.append_nil]; exact hx, hS, ⟨x, rfl, rfl, rfl⟩, fun r mc' mv ⟨h1, h2, h3⟩ => ⟨h2, h3, x, by rw [h1]; exact hr⟩, fun r r2 ⟨h1, _, _⟩ h2 => ?_⟩
 · have : id < 9 := by simp [L9] at hid; omega
   omega
 · rw [h1, hr] at h2
   cases h2
   exact hk
theorem backA_nil {β : Nat → Option Nat} {mv : List Nat} {mc : Mem2} : ∀ (r : Mem2) (id0 : Nat), backA β [] mv mc id0 r = some r
 | [], id0 => rfl
 | o :: r, id0 => by
  unfold backA
  rw [show posOf id0 [] = none from rfl]
  dsimp only
  rw [backA_nil r (id0 + 1)]
theorem back0 {m : Mem2} : backM [] [] m [] = some m := by
 unfold backM
 rw [backA_nil]
 show some (m ++ []) = _
 rw [List.append_nil]
theorem call_p {m : Mem2} (hS : E.S f xs [] (pt x [] [])) (hx : renL (fun _ => none) xs = some xs) (hr : ren (fun _ => none) x = some x) (hk : k x m) : WCall E (.fn f []) xs m k := by
 refine ⟨f, [], [], [], xs, _, rfl, .nil, rfl, by rw [List.append_nil]; exact hx, hS, ⟨x, _, _, rfl, rfl, rfl⟩, fun r mc' mv ⟨h1, h2, h3⟩ => ?_⟩
 subst h1 h2 h3
 exact ⟨.nil, fun j hj => (by cases hj), _, r, back0, hr, hk⟩
theorem call_pq {m : Mem2} (hS : E.S f xs [] (pt x [] [])) (hx : renL (fun _ => none) xs = some xs) (hr : ren (fun _ => none) x = some x) (hk : k x m) : WCallQ E lw (.fn f []) xs m k := by
 refine ⟨f, [], [], [], xs, _, rfl, .nil, fun id hid => (by cases hid), rfl, by rw [List.append_nil]; exact hx, hS, ⟨x, rfl, rfl, rfl⟩, fun r mc' mv ⟨h1, h2, h3⟩ => ⟨h2, h3, x, by rw [h1]; exact hr⟩, fun r r2 ⟨h1, _, _⟩ h2 => ?_⟩
 have hr' : ren (fun j => ([] : List Nat)[j]?) x = some x := hr
 rw [h1, hr'] at h2
 cases h2
 exact hk
end
def Meets (f : FuncId) (args : List V) (m : Mem2) (Post : V → Mem2 → List Nat → Prop) : Prop := ∀ (G : Gh) (w : World) (vs : Array Value), Ok G w m → VRL G w args vs →
 Calls Try.prog f vs w fun e w' => ∃ v G' r m' mv, e = .returned v ∧ Post r m' mv ∧ Fin G w m G' w' m' mv ∧ VR G' w' r v
structure Good (S : Spec) : Prop where
 ok : ∀ f args m Post, S f args m Post → Meets f args m Post
 fn : ∀ f args m Post, S f args m Post → ∃ fn, Try.prog.funcs[f]? = some fn ∧ (fn.name == "runtime.NumGoroutine") = false ∧ fn.body.isSome = true
theorem Good.env {S : Spec} (h : Good S) (N : Nat) : EnvOk (env N S) := ⟨tab_ok, h.ok, h.fn⟩
theorem mixed : Try.prog.follows .mixedOrders = true := by kernel_rfl
theorem last_pt {E : Env} {k : Nat} {mv : List Nat} {rs : List ResultVar} {x : V} {m' : Mem2} {s : St} (h : lastA E k mv rs (fun r a => r = x ∧ a = m') s) : lastA E k mv rs (fun r a => pt x m' mv r a mv) s := by
 obtain ⟨r, h1, h2⟩ := h
 refine ⟨r, h1, ?_⟩
 rcases h2 with ⟨h2, h3⟩ | ⟨L, mc, a1, a2, a3, a4, a5⟩
 · exact .inl ⟨h2, h3, rfl⟩
 · exact .inr ⟨L, mc, a1, a2, a3, a4, a5, rfl⟩
theorem meets {S : Spec} (h : Good S) {f : FuncId} {fn : Func} {c : Code} (hf : Try.prog.funcs[f]? = some fn) (hb : fn.body = some c) {args : List V} {m : Mem2} (hle : Nat.ble args.length fn.ntmps = true) {x : V} {m' : Mem2} {mv : List Nat}
 (hw : Awp (env fn.ntmps S) m.length mv c (endA (env fn.ntmps S) m.length mv fn.results.toList fun r a => r = x ∧ a = m') (start args m)) : Meets f args m (pt x m' mv) :=
 entry_sound (h.env fn.ntmps) mixed hf hb rfl (Nat.le_of_ble_eq_true hle) (Awp_mono c (fun e s q => by
  cases e with
  | normal => exact Gq_mono (fun s h => last_pt h) q
  | ret => exact Gq_mono (fun s h => last_pt h) q
  | _ => exact q) hw)
end Go.Proofs.YtogfcpaalcebdaaE
