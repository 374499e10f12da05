/- What law02.Make makes may be. -/
import Derived.Test.YtogfcpaalcebdaaCEMake
namespace Go.Proofs.YtogfcpaalcebdaaE
open Go Go.RowKit
set_option linter.unusedVariables false
set_option linter.unusedSimpArgs false
set_option maxRecDepth 1000000
def limM (t n : Int) : List (Int × Int) := [(11, 1), (10, 1), (9, 1), (8, 1), (7, 1), (6, t), (5, n + 1), (4, 2), (3, 4), (2, 4)]
theorem opsM_cases : ∀ op ∈ opsM, op = 0 ∨ op = 1 ∨ op = 2 ∨ op = 3 ∨ op = 4 ∨ op = 5 ∨ op = 6 ∨ op = 7 ∨ op = 8 ∨ op = 9 ∨ op = 10 ∨ op = 11 ∨ op = 13 ∨ op = 14 ∨ op = 15 ∨ op = 16 ∨ op = 17 ∨ op = 18 ∨ op = 19 ∨ op = 20 ∨ op = 21 ∨ op = 22 ∨ op = 23 ∨ op = 24 ∨ op = 25 ∨ op = 26 ∨ op = 27 := by decide
theorem ite_d {c : Prop} [Decidable c] (h : ¬ c) {a : Int} : (if c then a else 0) = 0 := if_neg h
theorem insF_ok {l : List (Int × Int)} {i : Ins} {wa wb wc : Int} (h1 : i.op < 28) (ha : (shAt i.op).a = wa) (hb : (shAt i.op).b = wb) (hc : (shAt i.op).c = wc) (za : wa = 0 → i.a = 0) (zb : wb = 0 → i.b = 0) (zc : wc = 0 → i.c = 0) (ia : insA l wa i.a = false) (ib : insA l wb i.b = false) (ic : insA l wc i.c = false) : insF l i = 0 := by
  unfold insF
  rw [ha, hb, hc, ia, ib, ic]
  rw [if_neg]
  · rfl
  · rintro (h | h | h | h)
    · omega
    · exact h.2 (za h.1)
    · exact h.2 (zb h.1)
    · exact h.2 (zc h.1)
theorem insA_n {l : List (Int × Int)} {w n : Int} (h : mget l w = none) (h6 : w ≠ 6) : insA l w n = false := by
  unfold insA
  rw [h]
  simp [h6]
theorem insA_s {l : List (Int × Int)} {w n m : Int} (h : mget l w = some m) (h6 : w ≠ 6 ∨ n ≠ 0) (h0 : 0 ≤ n) (h1 : n < m) : insA l w n = false := by
  unfold insA
  rw [h]
  simp
  omega
theorem insO_0 {t n b at_ : Int} (hb : 0 ≤ b ∧ b < 256) (hat : 0 ≤ at_ ∧ at_ < n) : insF (limM t n) (insO 0 b at_ n) = 0 :=
  insF_ok (wa := 0) (wb := 0) (wc := 0) (show (0 : Int) < 28 by decide) rfl rfl rfl (fun _ => rfl) (fun _ => rfl) (fun _ => rfl) (insA_n rfl (by decide)) (insA_n rfl (by decide)) (insA_n rfl (by decide))
theorem insO_1 {t n b at_ : Int} (hb : 0 ≤ b ∧ b < 256) (hat : 0 ≤ at_ ∧ at_ < n) : insF (limM t n) (insO 1 b at_ n) = 0 :=
  insF_ok (wa := 2) (wb := 1) (wc := 0) (show (1 : Int) < 28 by decide) rfl rfl rfl (fun h => absurd h (by decide)) (fun h => absurd h (by decide)) (fun _ => rfl) (insA_s (m := 4) rfl (.inl (by decide)) (show (0 : Int) ≤ b % 4 by omega) (show (b % 4 : Int) < 4 by omega)) (insA_n rfl (by decide)) (insA_n rfl (by decide))
theorem insO_2 {t n b at_ : Int} (hb : 0 ≤ b ∧ b < 256) (hat : 0 ≤ at_ ∧ at_ < n) : insF (limM t n) (insO 2 b at_ n) = 0 :=
  insF_ok (wa := 2) (wb := 3) (wc := 0) (show (2 : Int) < 28 by decide) rfl rfl rfl (fun h => absurd h (by decide)) (fun h => absurd h (by decide)) (fun _ => rfl) (insA_s (m := 4) rfl (.inl (by decide)) (show (0 : Int) ≤ b % 4 by omega) (show (b % 4 : Int) < 4 by omega)) (insA_s (m := 4) rfl (.inl (by decide)) (show (0 : Int) ≤ b / 4 % 4 by omega) (show (b / 4 % 4 : Int) < 4 by omega)) (insA_n rfl (by decide))
theorem insO_3 {t n b at_ : Int} (hb : 0 ≤ b ∧ b < 256) (hat : 0 ≤ at_ ∧ at_ < n) : insF (limM t n) (insO 3 b at_ n) = 0 :=
  insF_ok (wa := 2) (wb := 3) (wc := 3) (show (3 : Int) < 28 by decide) rfl rfl rfl (fun h => absurd h (by decide)) (fun h => absurd h (by decide)) (fun h => absurd h (by decide)) (insA_s (m := 4) rfl (.inl (by decide)) (show (0 : Int) ≤ b % 4 by omega) (show (b % 4 : Int) < 4 by omega)) (insA_s (m := 4) rfl (.inl (by decide)) (show (0 : Int) ≤ b / 4 % 4 by omega) (show (b / 4 % 4 : Int) < 4 by omega)) (insA_s (m := 4) rfl (.inl (by decide)) (show (0 : Int) ≤ b / 16 % 4 by omega) (show (b / 16 % 4 : Int) < 4 by omega))
theorem insO_4 {t n b at_ : Int} (hb : 0 ≤ b ∧ b < 256) (hat : 0 ≤ at_ ∧ at_ < n) : insF (limM t n) (insO 4 b at_ n) = 0 :=
  insF_ok (wa := 2) (wb := 3) (wc := 3) (show (4 : Int) < 28 by decide) rfl rfl rfl (fun h => absurd h (by decide)) (fun h => absurd h (by decide)) (fun h => absurd h (by decide)) (insA_s (m := 4) rfl (.inl (by decide)) (show (0 : Int) ≤ b % 4 by omega) (show (b % 4 : Int) < 4 by omega)) (insA_s (m := 4) rfl (.inl (by decide)) (show (0 : Int) ≤ b / 4 % 4 by omega) (show (b / 4 % 4 : Int) < 4 by omega)) (insA_s (m := 4) rfl (.inl (by decide)) (show (0 : Int) ≤ b / 16 % 4 by omega) (show (b / 16 % 4 : Int) < 4 by omega))
theorem insO_5 {t n b at_ : Int} (hb : 0 ≤ b ∧ b < 256) (hat : 0 ≤ at_ ∧ at_ < n) : insF (limM t n) (insO 5 b at_ n) = 0 :=
  insF_ok (wa := 2) (wb := 3) (wc := 3) (show (5 : Int) < 28 by decide) rfl rfl rfl (fun h => absurd h (by decide)) (fun h => absurd h (by decide)) (fun h => absurd h (by decide)) (insA_s (m := 4) rfl (.inl (by decide)) (show (0 : Int) ≤ b % 4 by omega) (show (b % 4 : Int) < 4 by omega)) (insA_s (m := 4) rfl (.inl (by decide)) (show (0 : Int) ≤ b / 4 % 4 by omega) (show (b / 4 % 4 : Int) < 4 by omega)) (insA_s (m := 4) rfl (.inl (by decide)) (show (0 : Int) ≤ b / 16 % 4 by omega) (show (b / 16 % 4 : Int) < 4 by omega))
theorem insO_6 {t n b at_ : Int} (hb : 0 ≤ b ∧ b < 256) (hat : 0 ≤ at_ ∧ at_ < n) : insF (limM t n) (insO 6 b at_ n) = 0 :=
  insF_ok (wa := 2) (wb := 3) (wc := 3) (show (6 : Int) < 28 by decide) rfl rfl rfl (fun h => absurd h (by decide)) (fun h => absurd h (by decide)) (fun h => absurd h (by decide)) (insA_s (m := 4) rfl (.inl (by decide)) (show (0 : Int) ≤ b % 4 by omega) (show (b % 4 : Int) < 4 by omega)) (insA_s (m := 4) rfl (.inl (by decide)) (show (0 : Int) ≤ b / 4 % 4 by omega) (show (b / 4 % 4 : Int) < 4 by omega)) (insA_s (m := 4) rfl (.inl (by decide)) (show (0 : Int) ≤ b / 16 % 4 by omega) (show (b / 16 % 4 : Int) < 4 by omega))
theorem insO_7 {t n b at_ : Int} (hb : 0 ≤ b ∧ b < 256) (hat : 0 ≤ at_ ∧ at_ < n) : insF (limM t n) (insO 7 b at_ n) = 0 :=
  insF_ok (wa := 2) (wb := 4) (wc := 0) (show (7 : Int) < 28 by decide) rfl rfl rfl (fun h => absurd h (by decide)) (fun h => absurd h (by decide)) (fun _ => rfl) (insA_s (m := 4) rfl (.inl (by decide)) (show (0 : Int) ≤ b % 4 by omega) (show (b % 4 : Int) < 4 by omega)) (insA_s (m := 2) rfl (.inl (by decide)) (show (0 : Int) ≤ b / 16 % 2 by omega) (show (b / 16 % 2 : Int) < 2 by omega)) (insA_n rfl (by decide))
theorem insO_8 {t n b at_ : Int} (hb : 0 ≤ b ∧ b < 256) (hat : 0 ≤ at_ ∧ at_ < n) : insF (limM t n) (insO 8 b at_ n) = 0 :=
  insF_ok (wa := 4) (wb := 3) (wc := 0) (show (8 : Int) < 28 by decide) rfl rfl rfl (fun h => absurd h (by decide)) (fun h => absurd h (by decide)) (fun _ => rfl) (insA_s (m := 2) rfl (.inl (by decide)) (show (0 : Int) ≤ b / 16 % 2 by omega) (show (b / 16 % 2 : Int) < 2 by omega)) (insA_s (m := 4) rfl (.inl (by decide)) (show (0 : Int) ≤ b % 4 by omega) (show (b % 4 : Int) < 4 by omega)) (insA_n rfl (by decide))
theorem insO_9 {t n b at_ : Int} (hb : 0 ≤ b ∧ b < 256) (hat : 0 ≤ at_ ∧ at_ < n) : insF (limM t n) (insO 9 b at_ n) = 0 :=
  insF_ok (wa := 3) (wb := 0) (wc := 0) (show (9 : Int) < 28 by decide) rfl rfl rfl (fun h => absurd h (by decide)) (fun _ => rfl) (fun _ => rfl) (insA_s (m := 4) rfl (.inl (by decide)) (show (0 : Int) ≤ b % 4 by omega) (show (b % 4 : Int) < 4 by omega)) (insA_n rfl (by decide)) (insA_n rfl (by decide))
theorem insO_10 {t n b at_ : Int} (hb : 0 ≤ b ∧ b < 256) (hat : 0 ≤ at_ ∧ at_ < n) : insF (limM t n) (insO 10 b at_ n) = 0 :=
  insF_ok (wa := 5) (wb := 0) (wc := 0) (show (10 : Int) < 28 by decide) rfl rfl rfl (fun h => absurd h (by decide)) (fun _ => rfl) (fun _ => rfl) (insA_s (m := n + 1) rfl (.inl (by decide)) (show (0 : Int) ≤ min (at_ + 1 + b / 4 % 4) n by omega) (show (min (at_ + 1 + b / 4 % 4) n : Int) < n + 1 by omega)) (insA_n rfl (by decide)) (insA_n rfl (by decide))
theorem insO_11 {t n b at_ : Int} (hb : 0 ≤ b ∧ b < 256) (hat : 0 ≤ at_ ∧ at_ < n) : insF (limM t n) (insO 11 b at_ n) = 0 := by
  have e : insO 11 b at_ n = if 200 ≤ b then ⟨11, b % 4, max (at_ - b / 4 % 4) 0, 0⟩ else ⟨11, b % 4, min (at_ + 1 + b / 4 % 4) n, 0⟩ := rfl
  rw [e]
  split
  · exact insF_ok (wa := 3) (wb := 5) (wc := 0) (show (11 : Int) < 28 by decide) rfl rfl rfl (fun h => absurd h (by decide)) (fun h => absurd h (by decide)) (fun _ => rfl) (insA_s (m := 4) rfl (.inl (by decide)) (show (0 : Int) ≤ b % 4 by omega) (show (b % 4 : Int) < 4 by omega)) (insA_s (m := n + 1) rfl (.inl (by decide)) (show (0 : Int) ≤ max (at_ - b / 4 % 4) 0 by omega) (show (max (at_ - b / 4 % 4) 0 : Int) < n + 1 by omega)) (insA_n rfl (by decide))
  · exact insF_ok (wa := 3) (wb := 5) (wc := 0) (show (11 : Int) < 28 by decide) rfl rfl rfl (fun h => absurd h (by decide)) (fun h => absurd h (by decide)) (fun _ => rfl) (insA_s (m := 4) rfl (.inl (by decide)) (show (0 : Int) ≤ b % 4 by omega) (show (b % 4 : Int) < 4 by omega)) (insA_s (m := n + 1) rfl (.inl (by decide)) (show (0 : Int) ≤ min (at_ + 1 + b / 4 % 4) n by omega) (show (min (at_ + 1 + b / 4 % 4) n : Int) < n + 1 by omega)) (insA_n rfl (by decide))
theorem insO_13 {t n b at_ : Int} (hb : 0 ≤ b ∧ b < 256) (hat : 0 ≤ at_ ∧ at_ < n) : insF (limM t n) (insO 13 b at_ n) = 0 :=
  insF_ok (wa := 7) (wb := 0) (wc := 0) (show (13 : Int) < 28 by decide) rfl rfl rfl (fun h => absurd h (by decide)) (fun _ => rfl) (fun _ => rfl) (insA_s (m := 1) rfl (.inl (by decide)) (show (0 : Int) ≤ 0 by omega) (show (0 : Int) < 1 by omega)) (insA_n rfl (by decide)) (insA_n rfl (by decide))
theorem insO_14 {t n b at_ : Int} (hb : 0 ≤ b ∧ b < 256) (hat : 0 ≤ at_ ∧ at_ < n) : insF (limM t n) (insO 14 b at_ n) = 0 :=
  insF_ok (wa := 7) (wb := 0) (wc := 0) (show (14 : Int) < 28 by decide) rfl rfl rfl (fun h => absurd h (by decide)) (fun _ => rfl) (fun _ => rfl) (insA_s (m := 1) rfl (.inl (by decide)) (show (0 : Int) ≤ 0 by omega) (show (0 : Int) < 1 by omega)) (insA_n rfl (by decide)) (insA_n rfl (by decide))
theorem insO_15 {t n b at_ : Int} (hb : 0 ≤ b ∧ b < 256) (hat : 0 ≤ at_ ∧ at_ < n) : insF (limM t n) (insO 15 b at_ n) = 0 :=
  insF_ok (wa := 7) (wb := 0) (wc := 0) (show (15 : Int) < 28 by decide) rfl rfl rfl (fun h => absurd h (by decide)) (fun _ => rfl) (fun _ => rfl) (insA_s (m := 1) rfl (.inl (by decide)) (show (0 : Int) ≤ 0 by omega) (show (0 : Int) < 1 by omega)) (insA_n rfl (by decide)) (insA_n rfl (by decide))
theorem insO_16 {t n b at_ : Int} (hb : 0 ≤ b ∧ b < 256) (hat : 0 ≤ at_ ∧ at_ < n) : insF (limM t n) (insO 16 b at_ n) = 0 :=
  insF_ok (wa := 7) (wb := 0) (wc := 0) (show (16 : Int) < 28 by decide) rfl rfl rfl (fun h => absurd h (by decide)) (fun _ => rfl) (fun _ => rfl) (insA_s (m := 1) rfl (.inl (by decide)) (show (0 : Int) ≤ 0 by omega) (show (0 : Int) < 1 by omega)) (insA_n rfl (by decide)) (insA_n rfl (by decide))
theorem insO_17 {t n b at_ : Int} (hb : 0 ≤ b ∧ b < 256) (hat : 0 ≤ at_ ∧ at_ < n) : insF (limM t n) (insO 17 b at_ n) = 0 :=
  insF_ok (wa := 2) (wb := 8) (wc := 0) (show (17 : Int) < 28 by decide) rfl rfl rfl (fun h => absurd h (by decide)) (fun h => absurd h (by decide)) (fun _ => rfl) (insA_s (m := 4) rfl (.inl (by decide)) (show (0 : Int) ≤ b % 4 by omega) (show (b % 4 : Int) < 4 by omega)) (insA_s (m := 1) rfl (.inl (by decide)) (show (0 : Int) ≤ 0 by omega) (show (0 : Int) < 1 by omega)) (insA_n rfl (by decide))
theorem insO_18 {t n b at_ : Int} (hb : 0 ≤ b ∧ b < 256) (hat : 0 ≤ at_ ∧ at_ < n) : insF (limM t n) (insO 18 b at_ n) = 0 :=
  insF_ok (wa := 8) (wb := 3) (wc := 0) (show (18 : Int) < 28 by decide) rfl rfl rfl (fun h => absurd h (by decide)) (fun h => absurd h (by decide)) (fun _ => rfl) (insA_s (m := 1) rfl (.inl (by decide)) (show (0 : Int) ≤ 0 by omega) (show (0 : Int) < 1 by omega)) (insA_s (m := 4) rfl (.inl (by decide)) (show (0 : Int) ≤ b % 4 by omega) (show (b % 4 : Int) < 4 by omega)) (insA_n rfl (by decide))
theorem insO_19 {t n b at_ : Int} (hb : 0 ≤ b ∧ b < 256) (hat : 0 ≤ at_ ∧ at_ < n) : insF (limM t n) (insO 19 b at_ n) = 0 :=
  insF_ok (wa := 2) (wb := 8) (wc := 3) (show (19 : Int) < 28 by decide) rfl rfl rfl (fun h => absurd h (by decide)) (fun h => absurd h (by decide)) (fun h => absurd h (by decide)) (insA_s (m := 4) rfl (.inl (by decide)) (show (0 : Int) ≤ b % 4 by omega) (show (b % 4 : Int) < 4 by omega)) (insA_s (m := 1) rfl (.inl (by decide)) (show (0 : Int) ≤ 0 by omega) (show (0 : Int) < 1 by omega)) (insA_s (m := 4) rfl (.inl (by decide)) (show (0 : Int) ≤ b / 4 % 4 by omega) (show (b / 4 % 4 : Int) < 4 by omega))
theorem insO_20 {t n b at_ : Int} (hb : 0 ≤ b ∧ b < 256) (hat : 0 ≤ at_ ∧ at_ < n) : insF (limM t n) (insO 20 b at_ n) = 0 :=
  insF_ok (wa := 9) (wb := 3) (wc := 0) (show (20 : Int) < 28 by decide) rfl rfl rfl (fun h => absurd h (by decide)) (fun h => absurd h (by decide)) (fun _ => rfl) (insA_s (m := 1) rfl (.inl (by decide)) (show (0 : Int) ≤ 0 by omega) (show (0 : Int) < 1 by omega)) (insA_s (m := 4) rfl (.inl (by decide)) (show (0 : Int) ≤ b % 4 by omega) (show (b % 4 : Int) < 4 by omega)) (insA_n rfl (by decide))
theorem insO_21 {t n b at_ : Int} (hb : 0 ≤ b ∧ b < 256) (hat : 0 ≤ at_ ∧ at_ < n) : insF (limM t n) (insO 21 b at_ n) = 0 :=
  insF_ok (wa := 2) (wb := 9) (wc := 0) (show (21 : Int) < 28 by decide) rfl rfl rfl (fun h => absurd h (by decide)) (fun h => absurd h (by decide)) (fun _ => rfl) (insA_s (m := 4) rfl (.inl (by decide)) (show (0 : Int) ≤ b % 4 by omega) (show (b % 4 : Int) < 4 by omega)) (insA_s (m := 1) rfl (.inl (by decide)) (show (0 : Int) ≤ 0 by omega) (show (0 : Int) < 1 by omega)) (insA_n rfl (by decide))
theorem insO_22 {t n b at_ : Int} (hb : 0 ≤ b ∧ b < 256) (hat : 0 ≤ at_ ∧ at_ < n) : insF (limM t n) (insO 22 b at_ n) = 0 :=
  insF_ok (wa := 2) (wb := 9) (wc := 2) (show (22 : Int) < 28 by decide) rfl rfl rfl (fun h => absurd h (by decide)) (fun h => absurd h (by decide)) (fun h => absurd h (by decide)) (insA_s (m := 4) rfl (.inl (by decide)) (show (0 : Int) ≤ b % 4 by omega) (show (b % 4 : Int) < 4 by omega)) (insA_s (m := 1) rfl (.inl (by decide)) (show (0 : Int) ≤ 0 by omega) (show (0 : Int) < 1 by omega)) (insA_s (m := 4) rfl (.inl (by decide)) (show (0 : Int) ≤ b / 4 % 4 by omega) (show (b / 4 % 4 : Int) < 4 by omega))
theorem insO_23 {t n b at_ : Int} (hb : 0 ≤ b ∧ b < 256) (hat : 0 ≤ at_ ∧ at_ < n) : insF (limM t n) (insO 23 b at_ n) = 0 :=
  insF_ok (wa := 9) (wb := 0) (wc := 0) (show (23 : Int) < 28 by decide) rfl rfl rfl (fun h => absurd h (by decide)) (fun _ => rfl) (fun _ => rfl) (insA_s (m := 1) rfl (.inl (by decide)) (show (0 : Int) ≤ 0 by omega) (show (0 : Int) < 1 by omega)) (insA_n rfl (by decide)) (insA_n rfl (by decide))
theorem insO_24 {t n b at_ : Int} (hb : 0 ≤ b ∧ b < 256) (hat : 0 ≤ at_ ∧ at_ < n) : insF (limM t n) (insO 24 b at_ n) = 0 :=
  insF_ok (wa := 10) (wb := 1) (wc := 0) (show (24 : Int) < 28 by decide) rfl rfl rfl (fun h => absurd h (by decide)) (fun h => absurd h (by decide)) (fun _ => rfl) (insA_s (m := 1) rfl (.inl (by decide)) (show (0 : Int) ≤ 0 by omega) (show (0 : Int) < 1 by omega)) (insA_n rfl (by decide)) (insA_n rfl (by decide))
theorem insO_25 {t n b at_ : Int} (hb : 0 ≤ b ∧ b < 256) (hat : 0 ≤ at_ ∧ at_ < n) : insF (limM t n) (insO 25 b at_ n) = 0 :=
  insF_ok (wa := 10) (wb := 0) (wc := 0) (show (25 : Int) < 28 by decide) rfl rfl rfl (fun h => absurd h (by decide)) (fun _ => rfl) (fun _ => rfl) (insA_s (m := 1) rfl (.inl (by decide)) (show (0 : Int) ≤ 0 by omega) (show (0 : Int) < 1 by omega)) (insA_n rfl (by decide)) (insA_n rfl (by decide))
theorem insO_26 {t n b at_ : Int} (hb : 0 ≤ b ∧ b < 256) (hat : 0 ≤ at_ ∧ at_ < n) : insF (limM t n) (insO 26 b at_ n) = 0 :=
  insF_ok (wa := 2) (wb := 11) (wc := 0) (show (26 : Int) < 28 by decide) rfl rfl rfl (fun h => absurd h (by decide)) (fun h => absurd h (by decide)) (fun _ => rfl) (insA_s (m := 4) rfl (.inl (by decide)) (show (0 : Int) ≤ b % 4 by omega) (show (b % 4 : Int) < 4 by omega)) (insA_s (m := 1) rfl (.inl (by decide)) (show (0 : Int) ≤ 0 by omega) (show (0 : Int) < 1 by omega)) (insA_n rfl (by decide))
theorem insO_27 {t n b at_ : Int} (hb : 0 ≤ b ∧ b < 256) (hat : 0 ≤ at_ ∧ at_ < n) : insF (limM t n) (insO 27 b at_ n) = 0 :=
  insF_ok (wa := 11) (wb := 0) (wc := 0) (show (27 : Int) < 28 by decide) rfl rfl rfl (fun h => absurd h (by decide)) (fun _ => rfl) (fun _ => rfl) (insA_s (m := 1) rfl (.inl (by decide)) (show (0 : Int) ≤ 0 by omega) (show (0 : Int) < 1 by omega)) (insA_n rfl (by decide)) (insA_n rfl (by decide))
theorem insO_ok {t n b at_ op : Int} (hop : op ∈ opsM) (hb : 0 ≤ b ∧ b < 256) (hat : 0 ≤ at_ ∧ at_ < n) : insF (limM t n) (insO op b at_ n) = 0 := by
  have hc := opsM_cases op hop
  clear hop
  rcases hc with rfl | rfl | rfl | rfl | rfl | rfl | rfl | rfl | rfl | rfl | rfl | rfl | rfl | rfl | rfl | rfl | rfl | rfl | rfl | rfl | rfl | rfl | rfl | rfl | rfl | rfl | rfl
  · exact insO_0 hb hat
  · exact insO_1 hb hat
  · exact insO_2 hb hat
  · exact insO_3 hb hat
  · exact insO_4 hb hat
  · exact insO_5 hb hat
  · exact insO_6 hb hat
  · exact insO_7 hb hat
  · exact insO_8 hb hat
  · exact insO_9 hb hat
  · exact insO_10 hb hat
  · exact insO_11 hb hat
  · exact insO_13 hb hat
  · exact insO_14 hb hat
  · exact insO_15 hb hat
  · exact insO_16 hb hat
  · exact insO_17 hb hat
  · exact insO_18 hb hat
  · exact insO_19 hb hat
  · exact insO_20 hb hat
  · exact insO_21 hb hat
  · exact insO_22 hb hat
  · exact insO_23 hb hat
  · exact insO_24 hb hat
  · exact insO_25 hb hat
  · exact insO_26 hb hat
  · exact insO_27 hb hat
theorem goes_ok {t n k : Int} (h : 1 ≤ k ∧ k < t) : insF (limM t n) ⟨12, k, 0, 0⟩ = 0 :=
  insF_ok (wa := 6) (wb := 0) (wc := 0) (show (12 : Int) < 28 by decide) rfl rfl rfl (fun h => absurd h (by decide)) (fun _ => rfl) (fun _ => rfl) (insA_s rfl (.inr (by show k ≠ 0; omega)) (by show 0 ≤ k; omega) (by show k < t; omega)) (insA_n rfl (by decide)) (insA_n rfl (by decide))
theorem insM_ok {t n a b at_ : Int} (ha : 0 ≤ a ∧ a < 256) (hb : 0 ≤ b ∧ b < 256) (hat : 0 ≤ at_ ∧ at_ < n) : insF (limM t n) (insM a b at_ n) = 0 := by
  unfold insM
  have hi : (a % 36).toNat < opsM.length := by rw [opsM_len]; omega
  refine insO_ok ?_ hb hat
  rw [List.getD_eq_getElem?_getD, List.getElem?_eq_getElem hi]
  exact List.getElem_mem hi
theorem insO_op {op b at_ n : Int} : (insO op b at_ n).op = op := by
  simp only [insO, apply_ite Ins.op, ite_self]
theorem codeF_ok {l : List (Int × Int)} : ∀ {c : List Ins}, (∀ i ∈ c, insF l i = 0) → codeF l c = 0
  | [], _ => rfl
  | i :: r, h => by
    unfold codeF
    rw [if_pos (h i (by simp))]
    exact codeF_ok fun j hj => h j (by simp [hj])
theorem codesF_ok {p : Prg} : ∀ {l : List (List Ins)}, (∀ c ∈ l, codeF (limF p c.length) c = 0) → codesF p l = 0
  | [], _ => rfl
  | c :: r, h => by
    unfold codesF
    rw [if_pos (h c (by simp))]
    exact codesF_ok fun j hj => h j (by simp [hj])
section
variable {l : List (List Int)} (h8 : ∀ r ∈ l, ∀ x ∈ r, 0 ≤ x ∧ x < 256)
theorem getD_in {c : List Int} (h : ∀ x ∈ c, 0 ≤ x ∧ x < 256) (j : Nat) : 0 ≤ c.getD j 0 ∧ c.getD j 0 < 256 := by
  rw [List.getD_eq_getElem?_getD]
  cases hq : c[j]? with
  | none => exact ⟨Int.le_refl _, (by decide : (0 : Int) < 256)⟩
  | some x => exact h x (List.mem_of_getElem? hq)
theorem codeM_len (l : List (List Int)) (n i : Nat) : (codeM l n i).length = headM n i + manyM (l.getD i []) := by
  unfold codeM
  rw [List.length_append, goes_len, insL_len]
  omega
theorem codeM_ok (h8 : ∀ r ∈ l, ∀ x ∈ r, 0 ≤ x ∧ x < 256) {n i : Nat} (hn : n ≤ 3) : ∀ x ∈ codeM l n i, insF (limM n (codeM l n i).length) x = 0 ∧ 0 ≤ x.op ∧ x.op < 28 := fun x hx => by
  have hlen := codeM_len l n i
  have hm := manyM_le (l.getD i [])
  have hh := headM_le n i
  unfold codeM at hx
  rcases List.mem_append.1 hx with hx | hx
  · unfold goesL at hx
    obtain ⟨k, hk, rfl⟩ := List.mem_map.1 hx
    have hk := List.mem_range.1 hk
    exact ⟨goes_ok (by omega), show (0 : Int) ≤ 12 by decide, show (12 : Int) < 28 by decide⟩
  · unfold insL at hx
    obtain ⟨j, hj, rfl⟩ := List.mem_map.1 hx
    have hj := List.mem_range.1 hj
    have hr := row_in h8 i
    rw [hlen]
    refine ⟨insM_ok (getD_in hr _) (getD_in hr _) (by omega), ?_⟩
    have ha := getD_in hr (2 * j)
    unfold insM
    rw [insO_op]
    have hi : ((l.getD i []).getD (2 * j) 0 % 36).toNat < opsM.length := by rw [opsM_len]; omega
    have hmem : opsM.getD ((l.getD i []).getD (2 * j) 0 % 36).toNat 0 ∈ opsM := by
      rw [List.getD_eq_getElem?_getD, List.getElem?_eq_getElem hi]
      exact List.getElem_mem hi
    exact opsM_all _ hmem
theorem makeM_s (h8 : ∀ r ∈ l, ∀ x ∈ r, 0 ≤ x ∧ x < 256) : soundF (makeM l) = 0 := by
  obtain ⟨n1, n3⟩ := nM_in l
  have hlen : (makeM l).code.length = nM l := by simp [makeM]
  have hin : ∀ c ∈ (makeM l).code, ∃ i, c = codeM l (nM l) i := fun c hc => by
    obtain ⟨i, _, rfl⟩ := List.mem_map.1 (show c ∈ (List.range (nM l)).map (codeM l (nM l)) from hc)
    exact ⟨i, rfl⟩
  have h60 : ∀ c ∈ (makeM l).code, c.length ≤ 11 := fun c hc => by
    obtain ⟨i, rfl⟩ := hin c hc
    have := codeM_len l (nM l) i
    have := manyM_le (l.getD i [])
    have := headM_le (nM l) i
    omega
  unfold soundF
  have e1 : ((makeM l).code.any fun c => decide (60 < c.length)) = false := by
    rw [List.any_eq_false]
    intro c hc
    have := h60 c hc
    simp
    omega
  have e2 : outF ((makeM l).code.length : Int) 1 6 = false := by
    rw [hlen]
    unfold outF
    simp
    omega
  rw [e1, e2]
  show (if false = true then (3 : Int) else if false = true then 21 else codesF (makeM l) (makeM l).code) = 0
  rw [if_neg (by decide), if_neg (by decide)]
  refine codesF_ok fun c hc => codeF_ok fun x hx => ?_
  obtain ⟨i, rfl⟩ := hin c hc
  have hq := (codeM_ok h8 (i := i) n3 x hx).1
  have hl := h60 _ hc
  have e3 : limF (makeM l) (codeM l (nM l) i).length = limM (nM l) (codeM l (nM l) i).length := by
    unfold limF limM
    rw [hlen, wrap_small (by omega) (by omega)]
    rfl
  rw [e3]
  exact hq
theorem makeM_ok (h8 : ∀ r ∈ l, ∀ x ∈ r, 0 ≤ x ∧ x < 256) : OkP (makeM l) := by
  obtain ⟨n1, n3⟩ := nM_in l
  have hin : ∀ c ∈ (makeM l).code, ∃ i, c = codeM l (nM l) i := fun c hc => by
    obtain ⟨i, _, rfl⟩ := List.mem_map.1 (show c ∈ (List.range (nM l)).map (codeM l (nM l)) from hc)
    exact ⟨i, rfl⟩
  refine ⟨fun c hc i hi => ?_, ?_, fun c hc => ?_, show 1 < 1000000 by decide⟩
  · obtain ⟨k, rfl⟩ := hin c hc
    have := codeM_ok h8 n3 i hi
    omega
  · show ((List.range (nM l)).map (codeM l (nM l))).length < 1000000
    rw [List.length_map, List.length_range]
    omega
  · obtain ⟨k, rfl⟩ := hin c hc
    have := codeM_len l (nM l) k
    have := manyM_le (l.getD k [])
    have := headM_le (nM l) k
    omega
end
end Go.Proofs.YtogfcpaalcebdaaE
