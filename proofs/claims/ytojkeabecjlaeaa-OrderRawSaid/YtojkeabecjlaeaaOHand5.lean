/- All that are ahead of an event, marked: what the method that goes back over a stack answers. -/
import Derived.Test.YtojkeabecjlaeaaOHand4
import Derived.ArgAppend
namespace Go.Proofs.Ytojkeabecjlaeaa.P
open Go.RowKit Go.Proofs.YtojkeabecjlaeaaW.PrintWords Go.Proofs.YtojkeabecjlaeaaW.PrintLast Go.Proofs.YtojkeabecjlaeaaW.PrintMore Go.Proofs.YtojkeabecjlaeaaX
set_option linter.unusedVariables false
set_option linter.unusedSimpArgs false
theorem infoI : (Try.prog.info? 3).map (fun i => (i.zero, i.size, i.bytes)) = some (some (.int .i64 0), 1, 8) := by kernel_rfl
theorem infoB : (Try.prog.info? 4).map (fun i => (i.zero, i.size, i.bytes)) = some (some (.bool false), 1, 1) := by kernel_rfl
def App (w : World) (base : Nat) (v : Value) (xs : List Int) : Prop :=
 (Kd.int .i64).R 3 w base (fun _ => True) v xs ∨
 ∃ ad, v = .slice (some ad) xs.length xs.length ∧ (Kd.int .i64).C w (some ad) xs.length xs ∧ base ≤ ad.block ∧ ∃ cells, w.heap[ad.block]? = some (.cells cells 3 (0, 0))
theorem App.reads {w : World} {base : Nat} {v : Value} {xs : List Int} (h : App w base v xs) : ∃ A c, v = .slice A xs.length c ∧ xs.length ≤ c ∧ (Kd.int .i64).C w A xs.length xs ∧ (0 < xs.length → ∃ ad, A = some ad ∧ base ≤ ad.block ∧ ∃ cells, w.heap[ad.block]? = some (.cells cells 3 (0, 0))) := by
 rcases h with h | ⟨ad, rfl, hC, hb, hc⟩
 · obtain ⟨A, c, rfl, hl, hC⟩ := Kd.R_reads h
   refine ⟨A, c, rfl, hl, hC, fun h0 => ?_⟩
   obtain ⟨g, cap, he, hb, _, hc⟩ := Kd.R_form h h0
   injection he with h1 _ _
   subst h1
   exact ⟨_, rfl, hb, hc⟩
 · exact ⟨_, _, rfl, Nat.le_refl _, hC, fun _ => ⟨ad, rfl, hb, hc⟩⟩
theorem App.below {w w1 : World} {base : Nat} {v : Value} {xs : List Int} (h : App w base v xs) (hb : Below w.heap.size w w1) : App w1 base v xs := by
 rcases h with h | ⟨ad, rfl, hC, hba, cells, hc⟩
 · exact .inl (Kd.R_below h hb)
 · exact .inr ⟨ad, rfl, Kd.C_below hC hb, hba, cells, (hb.block _ (blk_lt hc)).trans hc⟩
theorem App.far {w : World} {base : Nat} {v : Value} {xs : List Int} (h : App w base v xs) {g t : Nat} {cs : Array Value} (hg : w.heap[g]? = some (.cells cs t (0, 0))) (ht : 3 ≠ t) (j : Nat) (u : Value) : App (w.setCell ⟨g, j, none⟩ u) base v xs := by
 rcases h with h | ⟨ad, rfl, hC, hba, cells, hc⟩
 · exact .inl (Kd.R_set h hg (fun q hq => by
    rcases List.mem_cons.1 hq with rfl | hq
    · exact ht
    · cases hq) j u)
 · have hne : ad.block ≠ g := by
    intro e
    rw [e, hg] at hc
    injection hc with hc
    injection hc with _ hc
    exact ht hc.symm
   refine .inr ⟨ad, rfl, ?_, hba, cells, blk_far hc (p := ⟨g, j, none⟩) hne u⟩
   obtain ⟨h1, h2, h3⟩ := hC
   refine ⟨h1, h2, fun hn => ?_⟩
   obtain ⟨ad', e, hc'⟩ := h3 hn
   cases e
   refine ⟨ad, rfl, fun j' p hj => ?_⟩
   obtain ⟨c, hs, hr, hcell⟩ := hc' j' p hj
   exact ⟨c, hs, hr, fun i u' hu => by rw [cell_far (p := ⟨g, j, none⟩) (by rw [add_block]; exact hne)]; exact hcell i u' hu⟩
theorem App.cut {w : World} {base : Nat} {xs : List Int} {ad : Addr} {c n : Nat} (h : App w base (.slice (some ad) xs.length c) xs) (h0 : 0 < xs.length) (hn : n ≤ xs.length) : App w base (.slice (some ad) n n) (xs.take n) := by
 obtain ⟨A, c', he, hl, hC, hb⟩ := h.reads
 injection he with he _ _
 subst he
 obtain ⟨ad', e, hba, hcells⟩ := hb h0
 cases e
 have hln : (xs.take n).length = n := by rw [List.length_take]; omega
 refine .inr ⟨ad, by rw [hln], ?_, hba, hcells⟩
 obtain ⟨h1, h2, h3⟩ := hC
 obtain ⟨ad', e, hc'⟩ := h3 h0
 cases e
 refine ⟨rfl, by omega, fun _ => ⟨ad, rfl, fun j p hj => hc' j p ?_⟩⟩
 rw [List.getElem?_take] at hj
 split at hj
 · exact hj
 · cases hj
section
variable {P : Program} {ops : Array Oper} {rest : List Oper} {o : Oper} {a : Act} {Q : Exit → Act → World → Prop}
theorem App_append {w0 W : World} (base : Nat) (hgd : o.guard = none) (s x : Operand) (t : TypeId)
 (ho : o.op = .call { callee := .builtin .append, args := #[s, x], argTypes := #[t, t] }) (ht : P.underlying t = some (.slice 3)) (hinfo : (P.info? 3).map (fun i => (i.zero, i.size, i.bytes)) = some (some (.int .i64 0), 1, 8))
 (v : Value) (xs : List Int) (p : Int) (hs : a.eval s = v) (hx : a.eval x = .slice (some ⟨W.heap.size, 0, none⟩) 1 1) (HA : App W base v xs) (HB : Below base w0 W) (hbase : base ≤ W.heap.size) (hl : (xs.length + 1) * 8 ≤ 140737488355328)
 (h : ∀ v1 w1, App w1 base v1 (xs ++ [p]) → Below base w0 w1 → (∀ (d : Kd Bool) (e : Nat) (ok : Nat → Prop) (u : Value) (ys : List Bool), e ≠ 3 → (∀ q, q ∈ d.E → q ≠ 3) → d.R e W base ok u ys → d.R e w1 base ok u ys) → wpList P ops Q rest (a.put o.dst v1) w1) :
 wpList P ops Q (o :: rest) a (W.alloc (.cells #[.int .i64 p] 3)) := by
 rcases HA with HR | ⟨ad, rfl, hC, hba, cells, hcs⟩
 · refine Kd.R_append (Kd.int .i64) base hgd s x t 3 (.int .i64 0) 8 ho ht hinfo rfl (by decide) (by omega) v xs p [.int .i64 p] (fun _ => True) (fun _ => False) hs hx rfl (fun _ h => h.elim) (fun _ _ => trivial) HR HB hbase hl ?_
   intro v1 w1 hR hB hg hat
   refine h v1 w1 (.inl hR) hB (fun d e ok u ys he hE hu => ?_)
   cases hv : v.ownBlock with
   | none => exact Kd.R_grown hu hg (fun k _ => by rw [hv]; simp)
   | some b =>
    obtain ⟨inner, hown⟩ := Kd.R_own HR
    obtain ⟨cells, hb⟩ := own_typed hown b hv
    have h2 := Kd.R_types hu hb (fun q hq => by
     rcases List.mem_cons.1 hq with rfl | hq
     · exact he
     · exact hE q hq)
    exact Kd.R_mono (Kd.R_grown h2 hg (fun k hk => by rw [hv]; intro e2; injection e2 with e2; exact hk.2 e2)) (fun k hk => hk.1)
 · obtain ⟨i0, hi, hzz⟩ := Option.map_eq_some_iff.1 hinfo
   simp only [Prod.mk.injEq] at hzz
   obtain ⟨hz0, hz1, hz2⟩ := hzz
   obtain ⟨h1, h2, h3⟩ := hC
   refine wpList_append_grows _ hgd s x t ho 3 i0 (.int .i64 0) 1 8 ht hi hz0 hz1 hz2 rfl (by decide) (some ad) xs.length xs.length (nums .i64 xs) hs (fun e => by cases e) (by simp [nums]) ?_ ⟨W.heap.size, 0, none⟩ 1 1 [.int .i64 p] hx rfl ?_ (by simp [Value.oneCell']) (by omega) (by unfold maxLen; omega) hl ?_
   · intro b e j u hu
     cases e
     obtain ⟨hj, rfl⟩ := List.getElem?_eq_some_iff.1 hu
     have hj' : j < xs.length := by simpa [nums] using hj
     obtain ⟨ad', e, hc'⟩ := h3 (by omega)
     cases e
     obtain ⟨c, hs', hr, hcell⟩ := hc' j _ (List.getElem?_eq_getElem hj')
     have hr' : c = [.int .i64 xs[j]] := hr
     subst hr'
     have := hcell 0 _ rfl
     simp only [show (Kd.int .i64).sz = 1 from rfl, Nat.mul_one, Nat.add_zero] at this
     rw [show (nums .i64 xs)[j] = .int .i64 xs[j] by simp [nums]]
     exact pw_cell_below (below_alloc (Below.refl _ _) _) this
   · intro j u hu
     rcases j with _ | j
     · obtain rfl : Value.int .i64 p = u := by simpa using hu
       rw [add_plain]
       exact (blk_cell (blk_new W _) 0).trans rfl
     · simp at hu
   · intro v' w' hown hg
     have hsz : base ≤ (W.alloc (.cells #[.int .i64 p] 3)).heap.size := by simp; omega
     have hown' : w'.ownsRow base 3 1 v' (xs ++ [p]).length (encs (Value.int .i64) (xs ++ [p])) := by
      have := own_weaken hown hsz
      rw [show (xs ++ [p]).length = xs.length + 1 by simp, show encs (Value.int .i64) (xs ++ [p]) = nums .i64 xs ++ [.int .i64 p] by simp [encs, nums]]
      exact this
     refine h v' w' (.inl (Kd.R_of_own hown' (fun _ _ => trivial))) ((HB.alloc hbase _).grown hg hsz (fun k hk => by cases hk)) (fun d e ok u ys he hE hu => ?_)
     exact Kd.R_grown (Kd.R_below hu (below_alloc (Below.refl _ _) _)) hg (fun k _ => by simp)
end
def inner (D : Nat → Nat → Bool) (k : Nat) : Nat → Nat → List Bool → List Nat → List Bool × List Nat
 | 0, _, s, st => (s, st)
 | d + 1, i, s, st => if (!s.getD i false && D i k) = true then inner D k d (i + 1) (s.set i true) (st ++ [i]) else inner D k d (i + 1) s st
def outer (D : Nat → Nat → Bool) : Nat → List Bool → List Nat → Option (List Bool)
 | 0, _, _ => none
 | f + 1, s, st => if st = [] then some s else outer D f (inner D (st.getLast?.getD 0) (st.getLast?.getD 0) 0 s st.dropLast).1 (inner D (st.getLast?.getD 0) (st.getLast?.getD 0) 0 s st.dropLast).2
def ints (l : List Nat) : List Int := l.map fun (n : Nat) => (n : Int)
theorem ints_length (l : List Nat) : (ints l).length = l.length := by simp [ints]
theorem ints_snoc (l : List Nat) (k : Nat) : ints (l ++ [k]) = ints l ++ [(k : Int)] := by simp [ints]
def cnt (s : List Bool) : Nat := (s.filter id).length
theorem cnt_le (s : List Bool) : cnt s ≤ s.length := List.length_filter_le _ _
theorem cnt_set : ∀ (s : List Bool) (i : Nat), i < s.length → s.getD i false = false → cnt (s.set i true) = cnt s + 1
 | [], i, h, _ => by simp at h
 | b :: s, 0, _, h => by
  have hb : b = false := by simpa using h
  subst hb
  simp [cnt]
 | b :: s, i + 1, h, hf => by
  have ih := cnt_set s i (by simpa using h) (by simpa using hf)
  cases b
  · simpa [cnt] using ih
  · simp only [cnt, List.set_cons_succ, List.filter_cons, id, if_true, List.length_cons] at ih ⊢
    omega
set_option maxHeartbeats 4000000 in
set_option maxRecDepth 100000 in
theorem past_any (W : World) (g : Nat) (t : List S24) (pl la c : List Int) (A1 : Option Addr) (c1 j : Nat) (hT : TrAt W g pl la c) (h7 : W.cell? ⟨g, 7, none⟩ = some (.slice A1 t.length c1)) (hE : Kd.C k24 W A1 t.length t)
 (hj : j < t.length) (hpl : pl.length = t.length) (hla : la.length = t.length) (hm : t.length ≤ 1000000000) (F : Nat) (r : List Bool)
 (hD : outer (fun i k => dirW c (t.getD i z24) (t.getD k z24) (i : Int) (pl.getD i 0) (pl.getD k 0) (la.getD k 0)) F (List.replicate t.length false) [j] = some r) :
 Calls Try.prog 26 #[.pointer (some ⟨g, 0, none⟩), .int .i64 (j : Int)] W fun e w' => ∃ v0_ : Value, e = .returned v0_ ∧ Kd.R Kd.bool 4 w' W.heap.size (fun _ => True) v0_ r ∧ Below W.heap.size W w' := by
 obtain ⟨D, hDD⟩ : ∃ D : Nat → Nat → Bool, (fun i k => dirW c (t.getD i z24) (t.getD k z24) (i : Int) (pl.getD i 0) (pl.getD k 0) (la.getD k 0)) = D := ⟨_, rfl⟩
 rw [hDD] at hD
 have HDD := Aside0.mk hDD
 have HD := Aside0.mk hD
 have HT := Aside0.mk hT
 have HE := Aside0.mk hE
 have H7 := Aside0.mk h7
 have HJ := Aside0.mk hj
 have Hpl := Aside0.mk hpl
 have Hla := Aside0.mk hla
 have HM := Aside0.mk hm
 have hm' : (t.length : Int) ≤ 1000000000 := by omega
 have q0 : (0 : Int) ≤ (t.length : Int) := by omega
 clear hDD hD hT hE hj hpl hla hm
 go_enter Try.func26, Try.ntmps26
 go_wp2_with (first | ((with_reducible refine gate_dst (N := 15) rfl ?_); refine Kd.R_make Kd.bool _ 4 rfl (N := 15) rfl 54 _ _ rfl (t.length : Int) rfl rfl Try.underlying54 (.bool false) 1 infoB rfl (by decide) (by omega) false (ok := fun _ => True) (okp := fun _ => True) rfl (fun _ hk => hk) trivial q0 (by have := HM.out; simp only [Int.toNat_natCast]; omega) (Below.refl _ _) (Nat.le_refl _) ?_; intro vs wS hoS hbS hgS hnewS; have HS := Aside0.mk hoS; have HBS := Aside0.mk hbS; clear hoS hbS hgS hnewS) )
 obtain ⟨gs, cs, hvs, hgs0, hgs1, cellsS, hgsc⟩ := Kd.R_form HS.out (by have := HJ.out; simp only [List.length_replicate, Int.toNat_natCast]; omega)
 rw [List.length_replicate, Int.toNat_natCast] at hvs
 subst hvs
 clear hgsc hgs1
 have HG := Aside0.mk hgs0
 clear hgs0
 go_loopg [6] F (fun kq v6 w' => ∃ (s : List Bool) (st : List Nat), Aside0 (outer D kq s st = some r) ∧ Aside0 (∀ k ∈ st, k < t.length) ∧ Aside0 (s.length = t.length) ∧ Aside0 (st.length ≤ cnt s + 1) ∧ Aside0 (Kd.R Kd.bool 4 w' W.heap.size (fun _ => True) (.slice (some ⟨gs, 0, none⟩) t.length cs) s) ∧ Aside0 (App w' W.heap.size v6 (ints st)) ∧ Aside0 (Below W.heap.size W w'))
 case atStart =>
  refine ⟨List.replicate t.length false, [j], HD, ⟨fun k hk => by rw [List.mem_singleton.1 hk]; exact HJ.out⟩, ⟨by simp⟩, ⟨by simp⟩, ⟨?_⟩, ⟨?_⟩, ⟨below_alloc HBS.out _⟩⟩
  · have := HS.out
    rw [Int.toNat_natCast] at this
    exact Kd.R_below this (below_alloc (Below.refl _ _) _)
  · refine .inl (Kd.R_of_own ?_ (fun _ _ => trivial))
    exact World.ownsRow_lit (base := W.heap.size) (e := 3) (size := 1) wS #[.int .i64 (j : Int)] 1 HBS.out.size (by simp [maxLen]) rfl
 case round =>
  obtain ⟨wo, rfl⟩ : ∃ wo : World, wo = wr := ⟨_, rfl⟩
  obtain ⟨s, st, HO, HK, HSL, HC, HSR, HA, HB⟩ := hrel
  clear HD HBS HS
  cases gk with
  | zero => exact absurd HO.out (by simp [outer])
  | succ k1 =>
   rcases List.eq_nil_or_concat st with rfl | ⟨st', k, rfl⟩
   · have hr : s = r := by have := HO.out; simp only [outer, if_true] at this; exact Option.some.inj this
     obtain ⟨A, c', hv6, hl6, hC6, _⟩ := HA.out.reads
     rw [show (ints []).length = 0 from rfl] at hv6
     subst hv6
     subst hr
     clear hl6 hC6
     go_wp2
     go_ret
     exact ⟨_, rfl, HSR.out, HB.out⟩
   · simp only [List.concat_eq_append] at HO HK HC HA
     obtain ⟨A, c', hv6, hl6, hC6, hne6⟩ := HA.out.reads
     have eL : (ints (st' ++ [k])).length = st'.length + 1 := by simp [ints]
     rw [eL] at hv6 hl6 hC6 hne6
     obtain ⟨ad, rfl, hba, hcells⟩ := hne6 (by omega)
     obtain ⟨ad', e, hx⟩ := Kd.at_int hC6 (st'.length : Int) (by omega) (by omega)
     cases e
     have hk : rd (ints (st' ++ [k])) (st'.length : Int) = (k : Int) := by
      rw [ints_snoc, rd, Int.toNat_natCast, ← ints_length st', List.getD_eq_getElem?_getD, List.getElem?_append_right (Nat.le_refl _)]
      simp
     rw [hk, Int.toNat_natCast] at hx
     have HA' : App wo W.heap.size (.slice (some ad) st'.length st'.length) (ints st') := by
      have h1 := HA.out
      rw [hv6, ← eL] at h1
      have h2 := h1.cut (by rw [eL]; omega) (n := st'.length) (by rw [eL]; omega)
      rw [ints_snoc, List.take_left' (ints_length st')] at h2
      exact h2
     have HA2 := Aside0.mk HA'
     have hkn : k < t.length := HK.out k (by simp)
     have hml : st'.length ≤ 1000000000 := by
      have h1 := HC.out
      have h2 := cnt_le s
      have h3 := HSL.out
      have h4 := HM.out
      simp only [List.length_append, List.length_singleton] at h1
      omega
     have HO2 : Aside0 (outer D k1 (inner D k k 0 s st').1 (inner D k k 0 s st').2 = some r) := ⟨by
      have := HO.out
      simp only [outer] at this
      rw [if_neg (by simp)] at this
      simpa using this⟩
     have HK2 : Aside0 (∀ k ∈ st', k < t.length) := ⟨fun x hx => HK.out x (by simp [hx])⟩
     have HC2 : Aside0 (st'.length ≤ cnt s) := ⟨by have := HC.out; simp at this; omega⟩
     have HKN := Aside0.mk hkn
     have hkn' : (k : Int) ≤ 1000000000 := by omega
     obtain ⟨m, hm⟩ : ∃ m, st'.length = m := ⟨_, rfl⟩
     rw [hm] at hx hl6 hml HA2 hv6
     subst hv6
     have HMM := Aside0.mk hm
     clear hm hC6 hne6 hba hcells eL hk HA' hkn HA HO HK HC
     have z1 : (0 : Int) ≤ (m : Int) := by omega
     have z2 : (m : Int) < ((m + 1 : Nat) : Int) := by omega
     go_wp2
     go_loopg [6, 33] k (fun kq v6 v33 w' => ∃ (i : Nat) (s1 : List Bool) (st1 : List Nat), v33 = .int .i64 (i : Int) ∧ Aside0 (kq + i = k) ∧ Aside0 (inner D k kq i s1 st1 = inner D k k 0 s st') ∧ Aside0 (∀ x ∈ st1, x < t.length) ∧ Aside0 (s1.length = t.length) ∧ Aside0 (st1.length ≤ cnt s1) ∧ Aside0 (Kd.R Kd.bool 4 w' W.heap.size (fun _ => True) (.slice (some ⟨gs, 0, none⟩) t.length cs) s1) ∧ Aside0 (App w' W.heap.size v6 (ints st1)) ∧ Aside0 (Below W.heap.size W w'))
     case atStart => exact ⟨0, s, st', rfl, ⟨by omega⟩, ⟨rfl⟩, HK2, HSL, HC2, HSR, HA2, HB⟩
     case round =>
      obtain ⟨wi, rfl⟩ : ∃ wi : World, wi = wr := ⟨_, rfl⟩
      obtain ⟨i, s1, st1, rfl, HKI, HI, HK3, HSL1, HC3, HSR1, HA1, HB1⟩ := hrel
      clear HSR HA2 HB HK2 HC2 hx
      cases gk with
      | zero =>
       have hik : i = k := by have := HKI.out; omega
       have c0 : decide (i < k) = false := decide_eq_false (by omega)
       have HO3 : Aside0 (outer D k1 s1 st1 = some r) := ⟨by
        have h1 := HI.out
        simp only [inner] at h1
        have h2 := HO2.out
        rw [← h1] at h2
        exact h2⟩
       clear hik
       go_wp2
       go_roundg k1
       case measure => omega
       case rel => exact ⟨s1, st1, HO3, HK3, HSL1, ⟨by have := HC3.out; omega⟩, HSR1, HA1, HB1⟩
      | succ d =>
       have c0 : decide (i < k) = true := decide_eq_true (by have := HKI.out; omega)
       have hin : i < t.length := by have := HKI.out; have := HKN.out; omega
       have y1 : (0 : Int) ≤ (i : Int) := by omega
       have y2 : (i : Int) < (t.length : Int) := by omega
       have HIN := Aside0.mk hin
       have y3 : (i : Int) ≤ 1000000000 := by have := HM.out; omega
       obtain ⟨ad2, e2, hs2⟩ := Kd.at_bool (Kd.R_reads' HSR1.out).2.2 (i : Int) (by omega) (by have := HSL1.out; omega)
       cases e2
       rw [add_plain, Int.toNat_natCast] at hs2
       rw [show rdOf false s1 (i : Int) = s1.getD i false from rfl] at hs2
       have HI2 : Aside0 (inner D k (d + 1) i s1 st1 = if (!s1.getD i false && D i k) = true then inner D k d (i + 1) (s1.set i true) (st1 ++ [i]) else inner D k d (i + 1) s1 st1) := ⟨rfl⟩
       have HW1 : Aside0 (wrap64 ((i : Int) + 1) = ((i + 1 : Nat) : Int)) := ⟨by unfold wrap64; omega⟩
       clear hin
       cases hb1 : s1.getD i false with
       | true =>
        rw [hb1] at hs2
        have HI3 : Aside0 (inner D k d (i + 1) s1 st1 = inner D k k 0 s st') := ⟨by have h1 := HI.out; rw [HI2.out, hb1, if_neg (by simp)] at h1; exact h1⟩
        clear hb1
        go_wp2
        go_roundg d
        case measure => omega
        case rel => exact ⟨i + 1, s1, st1, by go_num, ⟨by have := HKI.out; omega⟩, HI3, HK3, HSL1, HC3, HSR1, HA1, HB1⟩
       | false =>
        rw [hb1] at hs2
        have HB1F := Aside0.mk hb1
        clear hb1
        have HDI : Aside0 (dirW c (t.getD i z24) (t.getD k z24) (i : Int) (pl.getD i 0) (pl.getD k 0) (la.getD k 0) = D i k) := ⟨congrFun (congrFun HDD.out i) k⟩
        have HCALL := Aside0.mk (direct_any wi g t pl la c A1 c1 i k (HT.out.below HB1.out) (pw_cell_below HB1.out H7.out) (Kd.C_below HE.out HB1.out) HIN.out HKN.out Hpl.out Hla.out HM.out)
        cases hd1 : D i k with
        | false =>
         have HI3 : Aside0 (inner D k d (i + 1) s1 st1 = inner D k k 0 s st') := ⟨by have h1 := HI.out; rw [HI2.out, HB1F.out, hd1, if_neg (by simp)] at h1; exact h1⟩
         have HD1 := Aside0.mk hd1
         clear hd1
         go_wp2_with (((with_reducible refine gate_callee (f := 32) rfl ?_); (try (refine gate_guard (by rfl) ?_; dsimp only)); refine goesL_ (some 45) rfl rfl Try.func32 (by kernel_rfl) rfl #[.pointer (some ⟨g, 0, none⟩), .int .i64 (i : Int), .int .i64 (k : Int)] rfl (by simp [Act.eval]) ?_; refine HCALL.out.mono ?_; rintro e w2 ⟨he, hb2⟩; rw [HDI.out, HD1.out] at he; subst he; have HS2 := Aside0.mk (Kd.R_below HSR1.out hb2); have HA3 := Aside0.mk (HA1.out.below hb2); have HB2 := Aside0.mk (below_then HB1.out HB1.out.size hb2); have hs3 := pw_cell_below hb2 hs2; clear hb2; refine ⟨_, rfl, ?_⟩))
         go_roundg d
         case measure => omega
         case rel => exact ⟨i + 1, s1, st1, by go_num, ⟨by have := HKI.out; omega⟩, HI3, HK3, HSL1, HC3, HS2, HA3, HB2⟩
        | true =>
         have HI3 : Aside0 (inner D k d (i + 1) (s1.set i true) (st1 ++ [i]) = inner D k k 0 s st') := ⟨by have h1 := HI.out; rw [HI2.out, HB1F.out, hd1, if_pos (by rfl)] at h1; exact h1⟩
         have HD1 := Aside0.mk hd1
         have hlim : (ints st1).length ≤ 1000000000 := by have h1 := HC3.out; have h2 := cnt_le s1; have h3 := HSL1.out; have h4 := HM.out; rw [ints_length]; omega
         have HLIM := Aside0.mk hlim
         clear hd1 hlim
         go_wp2_with (first | ((with_reducible refine gate_callee (f := 32) rfl ?_); (try (refine gate_guard (by rfl) ?_; dsimp only)); refine goesL_ (some 45) rfl rfl Try.func32 (by kernel_rfl) rfl #[.pointer (some ⟨g, 0, none⟩), .int .i64 (i : Int), .int .i64 (k : Int)] rfl (by simp [Act.eval]) ?_; refine HCALL.out.mono ?_; rintro e w2 ⟨he, hb2⟩; rw [HDI.out, HD1.out] at he; subst he; have HS2 := Aside0.mk (Kd.R_below HSR1.out hb2); have HA3 := Aside0.mk (HA1.out.below hb2); have HB2 := Aside0.mk (below_then HB1.out HB1.out.size hb2); have hs3 := pw_cell_below hb2 hs2; clear hb2; refine ⟨_, rfl, ?_⟩) | ((with_reducible refine gate_store (t := 4) (p := 49) rfl ?_); obtain ⟨gx, cx, ex, hx0, hx1, cellsX, hxc⟩ := Kd.R_form HS2.out (by have h1 := HSL1.out; have h2 := HIN.out; omega); cases (Option.some.inj (by injection ex : some (⟨gs, 0, none⟩ : Addr) = some ⟨gx, 0, none⟩)); clear ex; have HXC := Aside0.mk hxc; clear hxc hx0 hx1; have hfz : w2.frozen? ⟨gs, i, none⟩ = false := blk_frozen HXC.out i; refine store_event (t := 4) (p := 49) (v := ?vo) (w1 := w2.setCell ⟨gs, i, none⟩ (.bool true)) ?hg ?ho ?hn ?hr ?_; (case ho => rfl); (case hg => rfl); (case hn => rfl); (case hr => first | (go_simp; done) | (go_simp; rfl)); intro w4 hw4; have HS4 : Aside0 (Kd.R Kd.bool 4 w4 W.heap.size (fun _ => True) (.slice (some ⟨gs, 0, none⟩) t.length cs) (s1.set i true)) := ⟨by rw [hw4]; exact (Kd.R_putg HS2.out (i : Int) true).1⟩; have HA4 := Aside0.mk (by rw [hw4]; exact HA3.out.far HXC.out (by decide) i (.bool true) : App w4 W.heap.size u6 (ints st1)); have HB4 : Aside0 (Below W.heap.size W w4) := ⟨by rw [hw4]; exact below_set HB2.out HG.out⟩; clear hw4 hfz) | ((with_reducible refine gate_builtin (b := .append) (xs := #[.tmp 50, .tmp 52]) rfl ?_); at_builtin; refine App_append (w0 := W) W.heap.size rfl (.tmp 50) (.tmp 52) 27 rfl Try.underlying27 infoI _ (ints st1) (i : Int) rfl rfl HA4.out HB4.out HB4.out.size (by have := HLIM.out; omega) ?_; intro v1 w5 hA6 hB6 hkeep; have HA6 : Aside0 (App w5 W.heap.size v1 (ints (st1 ++ [i]))) := ⟨by rw [ints_snoc]; exact hA6⟩; have HB6 := Aside0.mk hB6; have HS6 := Aside0.mk (hkeep Kd.bool 4 _ _ _ (by decide) (fun q hq => by cases hq) HS4.out); clear hA6 hB6 hkeep))
         go_roundg d
         case measure => omega
         case rel => exact ⟨i + 1, s1.set i true, st1 ++ [i], by go_num, ⟨by have := HKI.out; omega⟩, HI3, ⟨fun x hx => by
          rcases List.mem_append.1 hx with hx | hx
          · exact HK3.out x hx
          · rw [List.mem_singleton.1 hx]; exact HIN.out⟩, ⟨by rw [List.length_set]; exact HSL1.out⟩, ⟨by rw [cnt_set s1 i (by rw [HSL1.out]; exact HIN.out) HB1F.out]; have := HC3.out; simp; omega⟩, HS6, HA6, HB6⟩
end Go.Proofs.Ytojkeabecjlaeaa.P
