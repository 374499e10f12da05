/- What was told. -/
import Derived.Test.YtogfcpaalcebdaaCESound
namespace Go.Proofs.YtogfcpaalcebdaaE
open Go Go.RowKit
set_option linter.unusedVariables false
set_option linter.unusedSimpArgs false
set_option maxRecDepth 1000000
set_option maxHeartbeats 8000000
section
variable {E : Env} {ops : List Oper} {K : St → Prop} {r : List Oper} {nid d : Nat} {A : Nat → V} {m m1 : Mem2} {ty : TypeId} {pos : String} {aft : Array Edge} {k : Nat} {mv : List Nat}
theorem wl_appG {α : Type} {f : α → List C} {t e : TypeId} {ti i : TI} {l1 l2 : List α} {x y : Operand} (h1 : look E.T t = some ti) (h2 : ti.td = .slc e) (h3 : look E.T e = some i) (hf : ∀ a ∈ l1 ++ l2, (f a).length = i.n) (hb : i.by_ ≤ 1000) (hd : dstR m i.n (ev A x) = some (l1.map f, m1)) (hs : srcR m (ev A y) = some (l2.map f)) (hl : l1.length + l2.length < 1000000)
 (hne : l2 ≠ [] ∨ l1 = [] ∨ ∃ id s off len, ev A x = .sl id s off len false) (hK : Wl E ops K r (nid + 2) ⟨up A d (.sl nid i.n 0 (l1.length + l2.length) false), m1.set nid (some (.arr i.n ((l1 ++ l2).map f)))⟩) : Wl E ops K (⟨some d, .call ⟨.builtin .append, #[x, y], #[t, t]⟩, ty, pos, aft, none⟩ :: r) nid ⟨A, m⟩ := by
 show WApp E #[t, t] [ev A x, ev A y] m nid _
 refine ⟨t, _, _, rfl, rfl, .inl ⟨ti, e, i, l1.map f, l2.map f, m1, h1, h2, h3, hd, hs, ?_, ?_, ?_, ?_, ?_, ?_⟩⟩
 · intro row hr; obtain ⟨a, ha, rfl⟩ := List.mem_map.1 hr; exact hf a (List.mem_append_right _ ha)
 · intro row hr; obtain ⟨a, ha, rfl⟩ := List.mem_map.1 hr; exact hf a (List.mem_append_left _ ha)
 · rw [List.length_map, List.length_map]
   have : (l1.length + l2.length) * i.by_ ≤ 1000000 * 1000 := Nat.mul_le_mul (by omega) hb
   omega
 · rw [List.length_map, List.length_map]; omega
 · rcases hne with h | h | h
   · exact .inl (by simpa using h)
   · exact .inr (.inl (by simp [h]))
   · exact .inr (.inr h)
 · rw [List.length_map, List.length_map, ← List.map_append]
   exact hK
theorem frzV_full {α : Type} {f : α → List C} {id s : Nat} {l : List α} {cl : Bool} : frzV id s (l.map f) (.sl id s 0 l.length cl) = .c (.ls (l.map f)) := by
 unfold frzV
 have h : (Nat.beq id id && Nat.beq s s && Nat.ble (0 + l.length) (l.map f).length) = true := by simp
 rw [h]
 simp only [cond_true, List.drop_zero]
 rw [List.take_of_length_le (by simp)]
theorem endA_rF {rs : List ResultVar} {Post : V → List (Option Ob) → Prop} {s s' : St} {x y : V} (id : Nat) (h0 : frz id s = some s') (L : List Nat) {mc : Mem2} (h : resA E.T rs s' = some x) (h1 : nodupL L = true) (h2 : keepL k mv L = true) (h3 : footM s'.m (fun id => posOf id L) L = some mc) (h4 : ren (fun id => posOf id L) x = some y) (hp : Post y mc) : endA E k mv rs Post .ret s :=
 ⟨s', Gst.frz h0, x, h, .inr ⟨L, mc, h1, h2, h3, by unfold renD; rw [h4]; exact hp⟩⟩
theorem endA_rN {rs : List ResultVar} {Post : V → List (Option Ob) → Prop} {s : St} {x y : V} (L : List Nat) {mc : Mem2} (h : resA E.T rs ⟨fun t => nlV (s.A t), s.m⟩ = some x) (h1 : nodupL L = true) (h2 : keepL k mv L = true) (h3 : footM s.m (fun id => posOf id L) L = some mc) (h4 : ren (fun id => posOf id L) x = some y) (hp : Post y mc) : endA E k mv rs Post .ret s :=
 ⟨_, Gfa.nl.gst, x, h, .inr ⟨L, mc, h1, h2, h3, by unfold renD; rw [h4]; exact hp⟩⟩
end
theorem src_all {m : Mem2} {id s : Nat} {l : List Int} {cl : Bool} (h : obGet m id = some (.arr s (encI l))) : srcR m (.sl id s 0 l.length cl) = some (l.map fun n => [ci n]) := by
 unfold srcR
 dsimp only
 rw [h]
 dsimp only
 rw [if_pos ⟨by simp, rfl⟩, List.drop_zero, List.take_of_length_le (by simp)]
 rfl
theorem eqsl {id s off len : Nat} {cl : Bool} : eqB tab 23 (.sl id s off len cl) .nl = none := rfl
theorem slsl {id s off len : Nat} {cl : Bool} : slNil tab 23 (.sl id s off len cl) .nl = if 0 < len then some (bo false) else some .bb := rfl
attribute [local simp] encI_len cv53 shp0c pExt Prg.cells ldQ g1R obQ stQ s1Q ix3 ia3 ia28 bi3 bs0 bs01 bs02 bs012 bs013 bs014 bs0134 bs01234 bw1 bw2 bw3
theorem clone_m {S : Spec} (hG : Good S) (l : List Int) (hl : l.length < 1000000) : Meets 46 [.sl 0 1 0 l.length false] [some (.arr 1 (encI l))] (pt (.c (.ls (encI l))) [some (.arr 1 (encI l))] []) := by
 refine meets hG Try.func46 rfl rfl ?_
 show Awp (env _ _) _ _ ((Try.f46).body.getD .skip) _ _
 unfold Try.f46
 dsimp only [Option.getD_some]
 unfold start
 generalize hQ : endA _ _ _ _ _ = Q
 by_cases h0 : l = []
 case pos =>
  subst h0
  repeat' (first
  | refine Awp_sq fun K hK => ?_
  | (refine Awp_reg rfl fun K hK => ?_; simp [*, eqsl, slsl])
  | (refine Awp_regD [] rfl rfl fun K hK => ?_; simp [*, eqsl, slsl])
  | (refine WG_br (fun h => ?_) (fun h => ?_) <;> (have h' := h; try simp at h'; simp [*, eqsl, slsl]))
  | (refine RG_br (fun h => ?_) (fun h => ?_) <;> (have h' := h; try simp at h'; simp [*, eqsl, slsl]))
  | refine Awp_ifB rfl ?_ ?_
  | (refine wl_lit (si := 1) (es := []) rfl ?_; try simp [*, eqsl, slsl])
  | (refine wl_appG (f := fun n => [ci n]) (l1 := []) (l2 := []) lk23 rfl lk3 (fun _ _ => rfl) (by decide) rfl rfl (by simp) (.inr (.inl rfl)) ?_; try simp [*, eqsl, slsl])
  | refine And.intro (by omega) ?_
  | (refine wl_box rfl ?_; simp [*, eqsl, slsl])
  | (refine wl_alloc rfl ?_; simp [*, eqsl, slsl])
  | (refine wr_box rfl ?_; simp [*, eqsl, slsl])
  | (refine wr_alloc rfl ?_; simp [*, eqsl, slsl])
  | (refine wl_store ?_; simp [*, eqsl, slsl])
  | (refine wr_store ?_; simp [*, eqsl, slsl])
  | (show Wl _ _ _ _ _ _; simp [*, eqsl, slsl])
  | (show Wr _ _ _ _ _ _ _; simp [*, eqsl, slsl])
  | refine kont (by assumption) ?_
  | with_reducible refine thenA_n ?_
  | with_reducible refine thenA_r ?_
  | with_reducible refine thenA_e ?_
  | with_reducible refine blockA_n ?_
  | with_reducible refine blockA_r ?_
  | with_reducible refine blockA_e ?_
  | with_reducible refine blockA_o rfl ?_
  | refine Awp_ifT rfl ?_
  | refine Awp_ifF rfl ?_
  | (refine Awp_if rfl (fun h => ?_) (fun h => ?_) <;> ((have h' := h; try simp at h') <;> try (have h2 := h; simp only [decide_eq_false_iff_not] at h2)))
  | with_reducible refine Awp_ret ?_
  | with_reducible refine Awp_skip ?_
  | with_reducible refine Awp_exit ?_
  | with_reducible refine Awp_block ?_)
  all_goals (subst hQ; first | refine endA_rN [0] rfl rfl rfl rfl rfl ⟨rfl, rfl⟩ | exact endA_rF 2 rfl [0] rfl rfl rfl rfl rfl ⟨rfl, rfl⟩)
 have hp : 0 < l.length := List.length_pos_iff.2 h0
 repeat' (first
 | refine Awp_sq fun K hK => ?_
 | (refine Awp_reg rfl fun K hK => ?_; simp [*, eqsl, slsl])
 | (refine Awp_regD [] rfl rfl fun K hK => ?_; simp [*, eqsl, slsl])
 | (refine WG_br (fun h => ?_) (fun h => ?_) <;> (have h' := h; try simp at h'; simp [*, eqsl, slsl]))
 | (refine RG_br (fun h => ?_) (fun h => ?_) <;> (have h' := h; try simp at h'; simp [*, eqsl, slsl]))
 | refine Awp_ifB rfl ?_ ?_
 | (refine wl_lit (si := 1) (es := []) rfl ?_; try simp [*, eqsl, slsl])
 | (refine wl_appG (f := fun n => [ci n]) (l1 := []) (l2 := l) lk23 rfl lk3 (fun _ _ => rfl) (by decide) rfl (src_all rfl) (by simpa using hl) (.inr (.inl rfl)) ?_; try simp [*, eqsl, slsl])
 | refine And.intro (by omega) ?_
 | (refine wl_box rfl ?_; simp [*, eqsl, slsl])
 | (refine wl_alloc rfl ?_; simp [*, eqsl, slsl])
 | (refine wr_box rfl ?_; simp [*, eqsl, slsl])
 | (refine wr_alloc rfl ?_; simp [*, eqsl, slsl])
 | (refine wl_store ?_; simp [*, eqsl, slsl])
 | (refine wr_store ?_; simp [*, eqsl, slsl])
 | (show Wl _ _ _ _ _ _; simp [*, eqsl, slsl])
 | (show Wr _ _ _ _ _ _ _; simp [*, eqsl, slsl])
 | refine kont (by assumption) ?_
 | with_reducible refine thenA_n ?_
 | with_reducible refine thenA_r ?_
 | with_reducible refine thenA_e ?_
 | with_reducible refine blockA_n ?_
 | with_reducible refine blockA_r ?_
 | with_reducible refine blockA_e ?_
 | with_reducible refine blockA_o rfl ?_
 | refine Awp_ifT rfl ?_
 | refine Awp_ifF rfl ?_
 | (refine Awp_if rfl (fun h => ?_) (fun h => ?_) <;> ((have h' := h; try simp at h') <;> try (have h2 := h; simp only [decide_eq_false_iff_not] at h2)))
 | with_reducible refine Awp_ret ?_
 | with_reducible refine Awp_skip ?_
 | with_reducible refine Awp_exit ?_
 | with_reducible refine Awp_block ?_)
 all_goals (subst hQ; refine endA_rF 2 rfl [0] rfl rfl rfl rfl (y := .c (.ls (encI l))) ?_ ⟨rfl, rfl⟩)
 all_goals (show ren _ (frzV 2 1 (encI l) (.sl 2 1 0 l.length false)) = _; rw [show encI l = l.map (fun n => [ci n]) from rfl, frzV_full]; rfl)
inductive SP : Spec
 | clone (l : List Int) (hl : l.length < 1000000) : SP 46 [.sl 0 1 0 l.length false] [some (.arr 1 (encI l))] (pt (.c (.ls (encI l))) [some (.arr 1 (encI l))] [])
theorem SP_good : Good SP := by
 refine ⟨fun f a m P h => ?_, fun f a m P h => ?_⟩
 · cases h with
   | clone l hl => exact clone_m Good.none l hl
 · cases h with
   | clone l hl => exact ⟨_, Try.func46, rfl, rfl⟩
theorem prints_m (hG : Good SP) (σ : Sg) (hl : σ.told.length < 1000000) : Meets 31 [.ptr 0 0 0] (M σ []) (pt (.c (.ls (encI σ.told))) (M σ []) []) := by
 refine meets hG Try.func31 rfl rfl ?_
 show Awp (env _ _) _ _ ((Try.f31).body.getD .skip) _ _
 unfold Try.f31
 dsimp only [Option.getD_some]
 unfold start
 generalize hQ : endA _ _ _ _ _ = Q
 repeat' (first
 | refine Awp_sq fun K hK => ?_
 | (refine Awp_reg rfl fun K hK => ?_; simp [*])
 | (refine Awp_regD [] rfl rfl fun K hK => ?_; simp [*])
 | (refine WG_br (fun h => ?_) (fun h => ?_) <;> (have h' := h; try simp at h'; simp [*]))
 | (refine RG_br (fun h => ?_) (fun h => ?_) <;> (have h' := h; try simp at h'; simp [*]))
 | (refine call_l [8] rfl rfl (SP.clone σ.told hl) rfl rfl ?_; try simp [*])
 | refine And.intro (by omega) ?_
 | (refine wl_box rfl ?_; simp [*])
 | (refine wl_alloc rfl ?_; simp [*])
 | (refine wr_box rfl ?_; simp [*])
 | (refine wr_alloc rfl ?_; simp [*])
 | (refine wl_store ?_; simp [*])
 | (refine wr_store ?_; simp [*])
 | (show Wl _ _ _ _ _ _; simp [*])
 | (show Wr _ _ _ _ _ _ _; simp [*])
 | refine kont (by assumption) ?_
 | with_reducible refine thenA_n ?_
 | with_reducible refine thenA_r ?_
 | with_reducible refine thenA_e ?_
 | with_reducible refine blockA_n ?_
 | with_reducible refine blockA_r ?_
 | with_reducible refine blockA_e ?_
 | with_reducible refine blockA_o rfl ?_
 | refine Awp_ifT rfl ?_
 | refine Awp_ifF rfl ?_
 | (refine Awp_if rfl (fun h => ?_) (fun h => ?_) <;> ((have h' := h; try simp at h') <;> try (have h2 := h; simp only [decide_eq_false_iff_not] at h2)))
 | with_reducible refine Awp_ret ?_
 | with_reducible refine Awp_skip ?_
 | with_reducible refine Awp_exit ?_
 | with_reducible refine Awp_block ?_)
 all_goals (subst hQ; refine endA_r9 rfl rfl ⟨rfl, rfl⟩)
end Go.Proofs.YtogfcpaalcebdaaE
/- Calls that yield a state, and steps of it. -/
namespace Go.Proofs.YtogfcpaalcebdaaE
open Go Go.RowKit
set_option linter.unusedVariables false
set_option linter.unusedSimpArgs false
def Msh (n : Nat) (σ : Sg) : Mem2 := some (.box (σ.p.cells ++ [.sl (n + 1) 6 0 σ.th.length false, .sl (n + 2) 1 0 σ.vars.length false, .sl (n + 3) 1 0 σ.atoms.length false, .sl (n + 4) 1 0 σ.locks.length false, .sl (n + 5) 2 0 σ.ch.length false, .sl (n + 6) 1 0 σ.groups.length false, .sl (n + 7) 1 0 σ.onces.length false, .sl (n + 8) 1 0 σ.told.length false, nB σ.trapped])) :: some (.arr 6 (σ.th.map Th.enc)) :: some (.arr 1 (encI σ.vars)) :: some (.arr 1 (encI σ.atoms)) :: some (.arr 1 (encI σ.locks)) :: some (.arw 2 (σ.ch.map Ch.enc)) :: some (.arr 1 (encI σ.groups)) :: some (.arr 1 (encI σ.onces)) :: some (.arr 1 (encI σ.told)) :: []
section
variable {E : Env} {σ σ' : Sg} {m ext : Mem2} {xs : List V} {k : V → Mem2 → Prop} {f : FuncId} {K : St → Prop} {A : Nat → V} {kk : Nat} {mv : List Nat}
theorem back_new : backM [] [] m (M σ []) = some (m ++ Msh m.length σ) := by
 unfold backM
 rw [backA_nil]
 rfl
theorem call_new {P : V → Mem2 → Prop} (σ : Sg) (hS : E.S f xs [] (pq P [])) (ha : renL (fun _ => none) xs = some xs) (hne : P (.ptr 0 0 0) (M σ [])) (hP : ∀ r a, P r a → r = .ptr 0 0 0 ∧ a = M σ []) (hk : k (.ptr m.length 0 0) (m ++ Msh m.length σ)) : WCall E (.fn f []) xs m k := by
 refine ⟨f, [], [], [], xs, _, rfl, .nil, rfl, by rw [List.append_nil]; exact ha, hS, ⟨_, _, [], hne, rfl⟩, fun r mc' mv ⟨e1, e3⟩ => ?_⟩
 obtain ⟨g1, g2⟩ := hP r mc' e1
 subst e3 g1 g2
 exact ⟨.nil, fun j hj => (by cases hj), _, .ptr m.length 0 0, back_new, rfl, hk⟩
theorem call_nil {P : V → Mem2 → Prop} (hS : E.S f xs [] (pq P [])) (ha : renL (fun _ => none) xs = some xs) (hne : P (.c (.sc (.pointer none))) []) (hP : ∀ r a, P r a → r = .c (.sc (.pointer none)) ∧ a = []) (hk : k (.c (.sc (.pointer none))) m) : WCall E (.fn f []) xs m k := by
 refine ⟨f, [], [], [], xs, _, rfl, .nil, rfl, by rw [List.append_nil]; exact ha, hS, ⟨_, _, [], hne, rfl⟩, fun r mc' mv ⟨e1, e3⟩ => ?_⟩
 obtain ⟨g1, g2⟩ := hP r mc' e1
 subst e3 g1 g2
 exact ⟨.nil, fun j hj => (by cases hj), _, _, back0, rfl, hk⟩
theorem back_t : backM L9 [8] (M σ ext) (M σ' []) = some (MT σ' (ext.length + 9) σ'.told (ext ++ [some (.arr 1 (encI σ'.told))])) := by
 have h1 : backA (back L9 (newIds L9 [8] (M σ' []).length) (M σ ext).length) L9 [8] (M σ' []) 0 (M σ []) = some (MT σ' (ext.length + 9) σ'.told []) := rfl
 have h2 : ∀ (r : Mem2) (id0 : Nat), 9 ≤ id0 → backA (back L9 (newIds L9 [8] (M σ' []).length) (M σ ext).length) L9 [8] (M σ' []) id0 r = some r := fun r => by
  induction r with
  | nil => intro id0 _; rfl
  | cons o r ih =>
   intro id0 h
   unfold backA
   rw [posOf9 id0 h]
   dsimp only
   rw [ih (id0 + 1) (by omega)]
 have h3 := backA_app (M σ []) _ 0 h1 (h2 ext _ (Nat.le_refl _))
 unfold backM
 rw [show M σ ext = M σ [] ++ ext from rfl] at h3 ⊢
 rw [h3]
 show some ((MT σ' (ext.length + 9) σ'.told [] ++ ext) ++ [some (.arr 1 (encI σ'.told))]) = _
 rw [List.append_assoc]
 rfl
theorem call_t {P : V → Mem2 → Prop} (hS : E.S f xs (M σ []) (pq P [8])) (hx : renL (fun id => posOf id L9) xs = some xs) (hne : ∃ r a, P r a)
 (hP : ∀ r a, P r a → ∃ σ', a = M σ' [] ∧ (∀ N, ren (back L9 [8] N) r = some r) ∧ k r (MT σ' (ext.length + 9) σ'.told (ext ++ [some (.arr 1 (encI σ'.told))]))) : WCall E (.fn f []) xs (M σ ext) k := by
 obtain ⟨r0, a0, h0⟩ := hne
 refine ⟨f, [], L9, M σ [], xs, _, rfl, by decide, foot9, by rw [List.append_nil]; exact hx, hS, ⟨r0, a0, _, h0, rfl⟩, fun r mc' mv ⟨h1, h3⟩ => ?_⟩
 subst h3
 obtain ⟨σ', rfl, g2, g3⟩ := hP r mc' h1
 exact ⟨by decide, fun j hj => by simp at hj; subst hj; decide, _, r, back_t, g2 _, g3⟩
theorem gq_t0 (hK : K ⟨fun t => renD [0, 1, 2, 3, 4, 5, 6, 7, 9] (A t), M σ []⟩) : Gq E 0 [] K ⟨A, MT σ 9 σ.told [some (.arr 1 (encI σ.told))]⟩ := ⟨_, Gst.cmp (L := [0, 1, 2, 3, 4, 5, 6, 7, 9]) rfl rfl rfl, hK⟩
end
@[simp] theorem rnT_0 : renD [0, 1, 2, 3, 4, 5, 6, 7, 9] (.ptr 0 0 0) = .ptr 0 0 0 := rfl
@[simp] theorem rnT_c {L : List Nat} {x : C} : renD L (.c x) = .c x := rfl
def nextF (σ : Sg) (k : Int) (ver : Nat) : Sg × Evt := if can σ k = true then goF σ k ver else (σ, Evt.none)
def pickF (x : Int) : Int := IntKind.i64.wrap ((IntKind.i64.wrap (x.tmod 13)).tdiv 4)
def picksF (c : List Int) : List Int := (c.take 60).map pickF
end Go.Proofs.YtogfcpaalcebdaaE
/- Choices as picks. -/
namespace Go.Proofs.YtogfcpaalcebdaaE
open Go Go.RowKit
set_option linter.unusedVariables false
set_option linter.unusedSimpArgs false
set_option maxRecDepth 1000000
set_option maxHeartbeats 8000000
theorem dst_all {m : Mem2} {id : Nat} {l : List Int} (h : obGet m id = some (.arr 1 (encI l))) : dstR m 1 (.sl id 1 0 l.length false) = some (l.map fun n => [ci n], m.set id none) := by
 unfold dstR
 dsimp only
 rw [h]
 dsimp only
 rw [if_pos ⟨by simp, rfl, rfl⟩, List.drop_zero]
 rfl
theorem src_one {m : Mem2} {id : Nat} {v : Int} (h : obGet m id = some (.arr 1 [[ci v]])) : srcR m (.sl id 1 0 1 true) = some ([v].map fun n => [ci n]) := by
 unfold srcR
 dsimp only
 rw [h]
 rfl
theorem wl_lit1 {N : Nat} {S : Spec} {ops : List Oper} {K : St → Prop} {r : List Oper} {nid d : Nat} {A : Nat → V} {m : Mem2} {ty : TypeId} {pos : String} {aft : Array Edge} {x : Operand} {v : Int} (hx : ev A x = nI v) (hK : Wl (env N S) ops K r (nid + 1) ⟨up A d (.sl nid 1 0 1 true), m.set nid (some (.arr 1 [[ci v]]))⟩) : Wl (env N S) ops K (⟨some d, .buildSlice 23 1 #[(0, x)], ty, pos, aft, none⟩ :: r) nid ⟨A, m⟩ :=
 wl_lit (es := [[ci v]]) (by show pLit tab 23 1 [(0, ev A x)] = _; rw [hx]; rfl) hK
def encU (l : List Int) : List (List C) := l.map fun n => [.sc (.int .u8 n)]
theorem ia_u8 {l : List Int} {n x : Int} (h0 : 0 ≤ n) (h : l[n.toNat]? = some x) : pIndexAddr tab 22 (.c (.ls (encU l))) (nI n) = some (.at [.sc (.int .u8 x)]) := pIdx_map (i := ti5) h0 h rfl
theorem ld_u8 {x : Int} {m : Mem2} : aLoad tab m 5 (.at [.sc (.int .u8 x)]) = some (nU x) := rfl
theorem encU_len {l : List Int} : (encU l).length = l.length := by simp [encU]
theorem rn_2 {n : Nat} : renD [2] (.sl 2 1 0 n false) = .sl 0 1 0 n false := rfl
theorem picks_take {c : List Int} {j : Nat} {x : Int} (h : c[j]? = some x) (hj : j < 60) : picksF (c.take (j + 1)) = picksF (c.take j) ++ [pickF x] := by
 unfold picksF
 rw [List.take_take, List.take_take, Nat.min_eq_right (by omega), Nat.min_eq_right (by omega), List.take_add_one, h]
 simp
theorem picks_len {c : List Int} {j : Nat} (h1 : j ≤ c.length) (h2 : j ≤ 60) : (picksF (c.take j)).length = j := by
 unfold picksF
 simp
 omega
theorem picks_end {c : List Int} {j : Nat} (h : ¬ (j < c.length ∧ j < 60)) (h1 : j ≤ c.length) (h2 : j ≤ 60) : picksF (c.take j) = picksF c := by
 unfold picksF
 rw [List.take_take, Nat.min_eq_right h2]
 by_cases e : j = 60
 · rw [e]
 · rw [List.take_of_length_le (by omega), List.take_of_length_le (by omega)]
theorem picks_m {S : Spec} (hG : Good S) (c : List Int) (hw8 : ∀ x ∈ c, 0 ≤ x ∧ x < 256) : Meets 13 [.c (.ls (encU c))] ([]) (pt (.c (.ls (encI (picksF c)))) [] []) := by
 refine meets hG Try.func13 rfl rfl ?_
 show Awp (env _ _) _ _ ((Try.f13).body.getD .skip) _ _
 unfold Try.f13
 dsimp only [Option.getD_some]
 unfold start
 generalize hQ : endA _ _ _ _ _ = Q
 repeat' (first
 | refine Awp_sq fun K hK => ?_
 | (refine Awp_reg rfl fun K hK => ?_; simp [*, ia_u8, ld_u8, cv53, encU_len, pickF])
 | (refine Awp_regD [] rfl rfl fun K hK => ?_; simp [*, ia_u8, ld_u8, cv53, encU_len, pickF])
 | (refine WG_br (fun h => ?_) (fun h => ?_) <;> (have h' := h; try simp at h'; simp [*, ia_u8, ld_u8, cv53, encU_len, pickF]))
 | (refine RG_br (fun h => ?_) (fun h => ?_) <;> (have h' := h; try simp at h'; simp [*, ia_u8, ld_u8, cv53, encU_len, pickF]))
 | (refine wl_lit1 rfl ?_; try simp [*, ia_u8, ld_u8, cv53, encU_len, pickF])
 | (refine wl_appG (f := fun n => [ci n]) (l1 := picksF (c.take j)) (l2 := [pickF x]) lk23 rfl lk3 (fun _ _ => rfl) (by decide) (dst_all rfl) (src_one rfl) (by simpa using hl6) (.inl (by simp)) ?_; try simp [*, ia_u8, ld_u8, cv53, encU_len, pickF])
 | refine And.intro (by omega) ?_
 | (refine wl_box rfl ?_; simp [*, ia_u8, ld_u8, cv53, encU_len, pickF])
 | (refine wl_alloc rfl ?_; simp [*, ia_u8, ld_u8, cv53, encU_len, pickF])
 | (refine wr_box rfl ?_; simp [*, ia_u8, ld_u8, cv53, encU_len, pickF])
 | (refine wr_alloc rfl ?_; simp [*, ia_u8, ld_u8, cv53, encU_len, pickF])
 | (refine wl_store ?_; simp [*, ia_u8, ld_u8, cv53, encU_len, pickF])
 | (refine wr_store ?_; simp [*, ia_u8, ld_u8, cv53, encU_len, pickF])
 | (show Wl _ _ _ _ _ _; simp [*, ia_u8, ld_u8, cv53, encU_len, pickF])
 | (show Wr _ _ _ _ _ _ _; simp [*, ia_u8, ld_u8, cv53, encU_len, pickF])
 | refine kont (by assumption) ?_
 | with_reducible refine thenA_n ?_
 | with_reducible refine thenA_r ?_
 | with_reducible refine thenA_e ?_
 | with_reducible refine blockA_n ?_
 | with_reducible refine blockA_r ?_
 | with_reducible refine blockA_e ?_
 | with_reducible refine blockA_o rfl ?_
 | refine Awp_ifT rfl ?_
 | refine Awp_ifF rfl ?_
 | (refine Awp_if rfl (fun h => ?_) (fun h => ?_) <;> ((have h' := h; try simp at h') <;> try (have h2 := h; simp only [decide_eq_false_iff_not] at h2)))
 | with_reducible refine Awp_ret ?_
 | with_reducible refine Awp_skip ?_
 | with_reducible refine Awp_exit ?_
 | with_reducible refine Awp_block ?_)
 refine Awp_loop (fun s => ∃ j : Nat, j ≤ c.length ∧ j ≤ 60 ∧ s.m = [some (.arr 1 (encI (picksF (c.take j))))] ∧ s.A 0 = .c (.ls (encU c)) ∧ s.A 3 = .sl 0 1 0 (picksF (c.take j)).length false ∧ s.A 4 = nI j) (fun s => match s.A 4 with | .c (.sc (.int _ n)) => 60 - n.toNat | _ => 0) ⟨_, Gst.emp (t := 3) (sz := 1) rfl, ?_⟩ (fun s hs => ?_)
 · exact ⟨0, by omega, by omega, rfl, rfl, rfl, rfl⟩
 obtain ⟨A, m⟩ := s
 obtain ⟨j, hj, hj6, hm, a0, a3, a4⟩ := hs
 dsimp only at hm a0 a3 a4
 subst hm
 have hlen := picks_len hj hj6
 by_cases hlt : j < c.length ∧ j < 60
 case neg =>
  have hend := picks_end hlt hj hj6
  have hcond : ((j : Int) < (c.length : Int)) → ¬ ((j : Int) < 60) := fun h h2 => hlt ⟨by omega, by omega⟩
  have hcond2 : ((j : Int) < (c.length : Int)) → (60 : Int) ≤ (j : Int) := fun h => by have := hcond h; omega
  clear hlt hlen
  repeat' (first
  | refine Awp_sq fun K hK => ?_
  | (refine Awp_reg rfl fun K hK => ?_; simp [*, ia_u8, ld_u8, cv53, encU_len, pickF])
  | (refine Awp_regD [] rfl rfl fun K hK => ?_; simp [*, ia_u8, ld_u8, cv53, encU_len, pickF])
  | (refine WG_br (fun h => ?_) (fun h => ?_) <;> (have h' := h; try simp at h'; simp [*, ia_u8, ld_u8, cv53, encU_len, pickF]))
  | (refine RG_br (fun h => ?_) (fun h => ?_) <;> (have h' := h; try simp at h'; simp [*, ia_u8, ld_u8, cv53, encU_len, pickF]))
  | (refine wl_lit1 rfl ?_; try simp [*, ia_u8, ld_u8, cv53, encU_len, pickF])
  | (refine wl_appG (f := fun n => [ci n]) (l1 := picksF (c.take j)) (l2 := [pickF x]) lk23 rfl lk3 (fun _ _ => rfl) (by decide) (dst_all rfl) (src_one rfl) (by simpa using hl6) (.inl (by simp)) ?_; try simp [*, ia_u8, ld_u8, cv53, encU_len, pickF])
  | refine And.intro (by omega) ?_
  | (refine wl_box rfl ?_; simp [*, ia_u8, ld_u8, cv53, encU_len, pickF])
  | (refine wl_alloc rfl ?_; simp [*, ia_u8, ld_u8, cv53, encU_len, pickF])
  | (refine wr_box rfl ?_; simp [*, ia_u8, ld_u8, cv53, encU_len, pickF])
  | (refine wr_alloc rfl ?_; simp [*, ia_u8, ld_u8, cv53, encU_len, pickF])
  | (refine wl_store ?_; simp [*, ia_u8, ld_u8, cv53, encU_len, pickF])
  | (refine wr_store ?_; simp [*, ia_u8, ld_u8, cv53, encU_len, pickF])
  | (show Wl _ _ _ _ _ _; simp [*, ia_u8, ld_u8, cv53, encU_len, pickF])
  | (show Wr _ _ _ _ _ _ _; simp [*, ia_u8, ld_u8, cv53, encU_len, pickF])
  | refine kont (by assumption) ?_
  | with_reducible refine thenA_n ?_
  | with_reducible refine thenA_r ?_
  | with_reducible refine thenA_e ?_
  | with_reducible refine blockA_n ?_
  | with_reducible refine blockA_r ?_
  | with_reducible refine blockA_e ?_
  | with_reducible refine blockA_o rfl ?_
  | refine Awp_ifT rfl ?_
  | refine Awp_ifF rfl ?_
  | (refine Awp_if rfl (fun h => ?_) (fun h => ?_) <;> ((have h' := h; try simp at h') <;> try (have h2 := h; simp only [decide_eq_false_iff_not] at h2)))
  | with_reducible refine Awp_ret ?_
  | with_reducible refine Awp_skip ?_
  | with_reducible refine Awp_exit ?_
  | with_reducible refine Awp_block ?_)
  all_goals (subst hQ; refine endA_rF 0 rfl [] rfl rfl rfl rfl (y := .c (.ls (encI (picksF c)))) ?_ ⟨rfl, rfl⟩)
  all_goals (show ren _ (frzV 0 1 (encI (picksF c)) (.sl 0 1 0 (picksF c).length false)) = _; rw [show encI (picksF c) = (picksF c).map (fun n => [ci n]) from rfl, frzV_full]; rfl)
 obtain ⟨hlt1, hlt2⟩ := hlt
 have hlt' : ((j : Int) < (c.length : Int)) := by omega
 have hlt6 : ((j : Int) < 60) := by omega
 obtain ⟨x, hx⟩ : ∃ x, c[j]? = some x := ⟨c[j], by simp [hlt1]⟩
 have hx2 : c[(j : Int).toNat]? = some x := hx
 have hj0 : (0 : Int) ≤ (j : Int) := by omega
 have hw : IntKind.i64.wrap ((j : Int) + 1) = ((j + 1 : Nat) : Int) := wrap_small (by omega) (by omega)
 have hdec : 60 - (j + 1) < 60 - j := by omega
 have hpt := picks_take hx hlt2
 have hj1 : j + 1 ≤ c.length := by omega
 have hj2 : j + 1 ≤ 60 := by omega
 have hl6 : (picksF (c.take j)).length + 1 < 1000000 := by omega
 clear hlt1 hlt2 hj hj6 hlen
 repeat' (first
 | refine Awp_sq fun K hK => ?_
 | (refine Awp_reg rfl fun K hK => ?_; simp [*, ia_u8, ld_u8, cv53, encU_len, pickF])
 | (refine Awp_regD [] rfl rfl fun K hK => ?_; simp [*, ia_u8, ld_u8, cv53, encU_len, pickF])
 | (refine WG_br (fun h => ?_) (fun h => ?_) <;> (have h' := h; try simp at h'; simp [*, ia_u8, ld_u8, cv53, encU_len, pickF]))
 | (refine RG_br (fun h => ?_) (fun h => ?_) <;> (have h' := h; try simp at h'; simp [*, ia_u8, ld_u8, cv53, encU_len, pickF]))
 | (refine wl_lit1 rfl ?_; try simp [*, ia_u8, ld_u8, cv53, encU_len, pickF])
 | (refine wl_appG (f := fun n => [ci n]) (l1 := picksF (c.take j)) (l2 := [pickF x]) lk23 rfl lk3 (fun _ _ => rfl) (by decide) (dst_all rfl) (src_one rfl) (by simpa using hl6) (.inl (by simp)) ?_; try simp [*, ia_u8, ld_u8, cv53, encU_len, pickF])
 | refine And.intro (by omega) ?_
 | (refine wl_box rfl ?_; simp [*, ia_u8, ld_u8, cv53, encU_len, pickF])
 | (refine wl_alloc rfl ?_; simp [*, ia_u8, ld_u8, cv53, encU_len, pickF])
 | (refine wr_box rfl ?_; simp [*, ia_u8, ld_u8, cv53, encU_len, pickF])
 | (refine wr_alloc rfl ?_; simp [*, ia_u8, ld_u8, cv53, encU_len, pickF])
 | (refine wl_store ?_; simp [*, ia_u8, ld_u8, cv53, encU_len, pickF])
 | (refine wr_store ?_; simp [*, ia_u8, ld_u8, cv53, encU_len, pickF])
 | (show Wl _ _ _ _ _ _; simp [*, ia_u8, ld_u8, cv53, encU_len, pickF])
 | (show Wr _ _ _ _ _ _ _; simp [*, ia_u8, ld_u8, cv53, encU_len, pickF])
 | refine kont (by assumption) ?_
 | with_reducible refine thenA_n ?_
 | with_reducible refine thenA_r ?_
 | with_reducible refine thenA_e ?_
 | with_reducible refine blockA_n ?_
 | with_reducible refine blockA_r ?_
 | with_reducible refine blockA_e ?_
 | with_reducible refine blockA_o rfl ?_
 | refine Awp_ifT rfl ?_
 | refine Awp_ifF rfl ?_
 | (refine Awp_if rfl (fun h => ?_) (fun h => ?_) <;> ((have h' := h; try simp at h') <;> try (have h2 := h; simp only [decide_eq_false_iff_not] at h2)))
 | with_reducible refine Awp_ret ?_
 | with_reducible refine Awp_skip ?_
 | with_reducible refine Awp_exit ?_
 | with_reducible refine Awp_block ?_)
 all_goals (refine ⟨_, Gst.cmp (L := [2]) rfl rfl rfl, ⟨j + 1, hj1, hj2, ?_, ?_, ?_, ?_⟩, ?_⟩)
 all_goals first | (show [some (Ob.arr 1 _)] = [some (Ob.arr 1 (encI (picksF (c.take (j + 1)))))]; rw [hpt]; simp [encI, pickF]; done) | (simp [*, cmp, rnT_c, rn_2]; done) | (simp [*, cmp, rnT_c, rn_2]; omega) | (rw [hpt]; show renD [2] (.sl 2 1 0 _ false) = _; simp [rn_2]; done)

end Go.Proofs.YtogfcpaalcebdaaE
/- A copy of a state without channels. -/
namespace Go.Proofs.YtogfcpaalcebdaaE
open Go Go.RowKit
set_option linter.unusedVariables false
set_option linter.unusedSimpArgs false
set_option maxRecDepth 1000000
set_option maxHeartbeats 8000000
section
variable {E : Env} {f : FuncId} {xs xs' : List V} {x x' : V} {m mc : Mem2} {k : V → Mem2 → Prop} {lw : Nat}
theorem call_lq (L : List Nat) (hL : nodupL L = true) (hlw : ∀ id ∈ L, id < lw) (hf : footM m (fun id => posOf id L) L = some mc) (hS : E.S f xs' mc (pt x mc [])) (ha : renL (fun id => posOf id L) xs = some xs') (hr : ren (fun j => L[j]?) x = some x') (hk : k x' m) : WCallQ E lw (.fn f []) xs m k :=
 ⟨f, [], L, mc, xs', _, rfl, nodupL_ok hL, hlw, hf, by rw [List.append_nil]; exact ha, hS, ⟨x, rfl, rfl, rfl⟩, fun r mc' mv ⟨h1, h2, h3⟩ => ⟨h2, h3, x', by rw [h1]; exact hr⟩, fun r r2 ⟨h1, _, _⟩ h2 => by
  rw [h1, hr] at h2
  cases h2
  exact hk⟩
end
theorem eqsl56 {id s off len : Nat} {cl : Bool} : eqB tab 79 (.sl id s off len cl) .nl = none := rfl
theorem slsl56 {id s off len : Nat} {cl : Bool} : slNil tab 79 (.sl id s off len cl) .nl = if 0 < len then some (bo false) else some .bb := rfl
theorem eqsl57 {id s off len : Nat} {cl : Bool} : eqB tab 80 (.sl id s off len cl) .nl = none := rfl
theorem slsl57 {id s off len : Nat} {cl : Bool} : slNil tab 80 (.sl id s off len cl) .nl = if 0 < len then some (bo false) else some .bb := rfl
theorem src_allG {α : Type} {f : α → List C} {m : Mem2} {id s : Nat} {l : List α} {cl : Bool} (h : obGet m id = some (.arr s (l.map f))) : srcR m (.sl id s 0 l.length cl) = some (l.map f) := by
 unfold srcR
 dsimp only
 rw [h]
 dsimp only
 rw [if_pos ⟨by simp, rfl⟩, List.drop_zero, List.take_of_length_le (by simp)]
def copyC (σ : Sg) : List V := σ.p.cells ++ [.c (.ls (σ.th.map Th.enc)), .c (.ls (encI σ.vars)), .c (.ls (encI σ.atoms)), .c (.ls (encI σ.locks)), .c (.ls []), .c (.ls (encI σ.groups)), .c (.ls (encI σ.onces)), .c (.ls (encI σ.told)), nB σ.trapped]
theorem rd_all {σ : Sg} {ext : Mem2} : aLoad tab (M σ ext) 82 (.ptr 0 0 0) = some (.agg (stBox σ)) := rfl
inductive SK : Spec
 | c27 (l : List Int) (hl : l.length < 1000000) : SK 46 [.sl 0 1 0 l.length false] [some (.arr 1 (encI l))] (pt (.c (.ls (encI l))) [some (.arr 1 (encI l))] [])
theorem SK_good : Good SK := by
 refine ⟨fun f a m P h => ?_, fun f a m P h => ?_⟩
 · cases h with
   | c27 l hl => exact clone_m Good.none l hl
 · cases h with
   | c27 l hl => exact ⟨_, Try.func46, rfl, rfl⟩
theorem st_all9 {σ : Sg} {e : Mem2} {cs xs : List V} (h : cs.length = 16) (hx : xs.length = 16) : aStore tab (M σ (some (.box cs) :: e)) 82 (.ptr 9 0 0) (.agg xs) = some (M σ (some (.box xs) :: e)) := stAll lk82 rfl hx rfl h
theorem stB_len {σ : Sg} : (stBox σ).length = 16 := rfl
end Go.Proofs.YtogfcpaalcebdaaE
