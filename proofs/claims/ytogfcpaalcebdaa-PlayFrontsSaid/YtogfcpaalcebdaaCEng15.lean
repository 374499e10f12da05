/- An engine for walks: append. -/
import Derived.Test.YtogfcpaalcebdaaCEng9
namespace Go.Proofs.YtogfcpaalcebdaaE
open Go Go.RowKit
set_option linter.unusedVariables false
set_option linter.unusedSimpArgs false
section
variable {P : Program} {T : Tab} {G G' : Gh} {w w' : World} {m m' : List (Option Ob)}
def Src (G : Gh) (w : World) (s : Nat) (rows : List (List C)) (ao : Option Addr) : Prop :=
  rows = [] ∨ ∃ b o, ao = some ⟨b, o, none⟩ ∧ ∀ k, k < rows.length * s → ∃ u, w.cell? ⟨b, o + k, none⟩ = some u ∧ u.oneCell' = true ∧ ∀ i row j x, k = i * s + j → rows[i]? = some row → row[j]? = some x → j < s → CR G.kd w x u
theorem divmod {s k n : Nat} (hk : k < n * s) : k = (k / s) * s + k % s ∧ k % s < s ∧ k / s < n := by
  have hs : 0 < s := by
    rcases Nat.eq_zero_or_pos s with h | h
    · subst h; omega
    · exact h
  refine ⟨by rw [Nat.mul_comm]; exact (Nat.div_add_mod k s).symm, Nat.mod_lt _ hs, ?_⟩
  rw [Nat.div_lt_iff_lt_mul hs]
  exact hk
theorem Src.of_CR {s : Nat} {rows : List (List C)} {ao : Option Addr} {cap : Nat} (h : CR G.kd w (.ls rows) (.slice ao rows.length cap)) (hs : ∀ row ∈ rows, row.length = s) : Src G w s rows ao := by
  cases h with
  | @ls _ _ _ s' b o f hcap hmax hao hs' hc hr =>
    cases rows with
    | nil => exact .inl rfl
    | cons r0 rows =>
      obtain ⟨rfl, hk⟩ := hao (by simp)
      have hss : s' = s := by rw [← hs r0 (by simp), hs' r0 (by simp)]
      subst hss
      refine .inr ⟨b, o, rfl, fun k hk => ?_⟩
      obtain ⟨e, h1, h2⟩ := divmod hk
      have hrow := List.getElem?_eq_getElem h2
      have hlen : ((r0 :: rows)[k / s']).length = s' := hs _ (List.getElem_mem _)
      have hx := List.getElem?_eq_getElem (l := (r0 :: rows)[k / s']) (i := k % s') (by omega)
      refine ⟨f (k / s') (k % s'), ?_, (hr _ _ _ _ hrow hx).one, fun i row j x e1 e2 e3 hj => ?_⟩
      · rw [← hc _ _ _ _ hrow hx]
        congr 2
        omega
      · obtain ⟨rfl, rfl⟩ := idx_inj h1 hj (e.symm.trans e1)
        exact hr _ _ _ _ e2 e3
def srcR (m : List (Option Ob)) (x : V) : Option (List (List C)) :=
  match x with
  | .c (.ls es) => some es
  | .ic es => some es
  | .nl => some []
  | .sl id s off len _ => match obGet m id with
    | some (.arr s' es) => if off + len ≤ es.length ∧ s = s' then some ((es.drop off).take len) else none
    | some (.arw _ _) => if len = 0 then some [] else none
    | _ => none
  | .rw id i j ver off len => match obGet m id with
    | some (.arw s es) => match es[i]? with
      | some row => match row[j]? with
        | some (.ow r ver') => if ver = ver' ∧ off + len ≤ r.length then some (((r.drop off).take len).map fun x => [x]) else none
        | _ => none
      | none => none
    | _ => none
  | _ => none
theorem src_sound (hok : Ok G w m) {x : V} {v : Value} {rows : List (List C)} {s : Nat} (hx : VR G w x v) (h : srcR m x = some rows) (hs : ∀ row ∈ rows, row.length = s) : ∃ ao cap, v = .slice ao rows.length cap ∧ Src G w s rows ao := by
  unfold srcR at h
  split at h
  · cases h
    cases hx with
    | c hx =>
      generalize hv : v = v' at hx
      cases hx with
      | @ls _ ao cap _ _ _ f hcap hmax hao hs' hc hr => exact ⟨ao, cap, rfl, .of_CR (.ls f hcap hmax hao hs' hc hr) hs⟩
  · cases h
    cases hx with
    | @ic _ ao hx => exact ⟨ao, _, rfl, .of_CR hx hs⟩
  · cases h; cases hx; exact ⟨none, 0, rfl, .inl rfl⟩
  · rename_i id s0 off len cl
    split at h
    · rename_i s' es hg
      split at h
      · rename_i hle
        cases h
        obtain ⟨hle, rfl⟩ := hle
        have hlen : ((es.drop off).take len).length = len := by simp; omega
        cases hx with
        | @sl _ _ _ _ cap _ ao h1 h2 h3 h4 =>
          refine ⟨ao, cap, by rw [hlen], ?_⟩
          rcases Nat.eq_zero_or_pos len with rfl | hpos
          · exact .inl (by simp)
          obtain ⟨b, o, a1, a2, a3, a4⟩ := h4 (by omega)
          obtain ⟨hw, hr, q⟩ := hok.ob id _ (obGet_some hg)
          rcases q with ⟨q, _⟩ | ⟨b', o', hb⟩
          · rw [a1] at q; cases q
          have e := hb.loc
          rw [a1] at e
          cases e
          have hss : s0 = s := by
            rw [← hs (es[off]'(by omega)) (List.mem_of_getElem? (i := 0) (by rw [List.getElem?_take, if_pos hpos, List.getElem?_drop]; exact List.getElem?_eq_getElem _))]
            exact (hr _ (List.getElem_mem _)).symm
          subst hss
          refine .inr ⟨b, o + off * s0, a3, fun k hk => ?_⟩
          rw [hlen] at hk
          obtain ⟨e, d1, d2⟩ := divmod hk
          have hlt : off * s0 + k < es.length * s0 := by
            have : (off + len) * s0 ≤ es.length * s0 := Nat.mul_le_mul_right _ hle
            rw [Nat.add_mul] at this
            omega
          obtain ⟨u, c1, c2, c3, c4⟩ := hb.cell hlt
          refine ⟨u, by rw [← c1]; congr 2; omega, c2, fun i row j x e1 e2 e3 hj => ?_⟩
          rw [List.getElem?_take] at e2
          split at e2
          · rw [List.getElem?_drop] at e2
            exact c3 _ _ _ _ (by rw [e1, Nat.add_mul]; omega) e2 e3
          · cases e2
      · cases h
    · split at h
      · rename_i h0
        cases h
        cases hx with
        | @sl _ _ _ _ cap _ ao h1 h2 h3 h4 => exact ⟨ao, cap, by rw [h0]; rfl, .inl rfl⟩
      · cases h
    · cases h
  · rename_i id i j ver off len
    split at h
    · rename_i s' es hg
      split at h
      · rename_i row hrow
        split at h
        · rename_i r ver' hy
          split at h
          · rename_i hcond
            cases h
            obtain ⟨rfl, hle⟩ := hcond
            have hlen : (((r.drop off).take len).map fun x => [x]).length = len := by simp; omega
            cases hx with
            | @rw _ _ _ _ _ _ cap ao h1 h2 h3 =>
              refine ⟨ao, cap, by rw [hlen], ?_⟩
              rcases Nat.eq_zero_or_pos len with rfl | hpos
              · exact .inl (by simp)
              obtain ⟨b, o, a1, a2, a3⟩ := h3 (by omega)
              obtain ⟨hw, hr, q⟩ := hok.ob id _ (obGet_some hg)
              rcases q with ⟨_, q⟩ | ⟨b', o', hb⟩
              · rw [q] at hrow; cases hrow
              have hj : j < s' := by rw [← hr row (List.mem_of_getElem? hrow)]; exact (List.getElem?_eq_some_iff.1 hy).1
              obtain ⟨u0, c1, c2, c3, c4⟩ := hb.cell (j := i * s' + j) (idx_lt hj (List.getElem?_eq_some_iff.1 hrow).1)
              obtain ⟨ao', cap', rfl, q1, q2, q3⟩ := c3 _ _ _ _ rfl hrow hy
              rcases q3 with ⟨_, q3⟩ | ⟨b2, o2, Cs, ty, d1, d2, d3, d4, d5, d6, d7, d8⟩
              · rw [a1] at q3; cases q3
              rw [a1] at d1
              cases d1
              have hss : 1 = s := by
                have hq : ∃ y, r[off]? = some y := ⟨_, List.getElem?_eq_getElem (by omega)⟩
                obtain ⟨y, hy'⟩ := hq
                exact hs [y] (List.mem_of_getElem? (i := 0) (by rw [List.getElem?_map, List.getElem?_take, if_pos hpos, List.getElem?_drop, Nat.add_zero, hy']; rfl))
              subst hss
              refine .inr ⟨b, o + off, a2, fun k hk => ?_⟩
              rw [hlen] at hk
              have hlt : o + (off + k) < Cs.size := by omega
              refine ⟨Cs.getD (o + (off + k)) undef, ?_, d7 _ (getD_mem hlt), fun i' row' j' x e1 e2 e3 hj' => ?_⟩
              · rw [Nat.add_assoc, cell_of_row w b _ Cs ty _ d4]
                simp [hlt]
              · obtain ⟨rfl, e4⟩ := wrap_get e2 e3
                rw [List.getElem?_take] at e4
                split at e4
                · rw [List.getElem?_drop] at e4
                  have : k = i' := by omega
                  subst this
                  exact d8 _ _ e4
                · cases e4
          · cases h
        · cases h
      · cases h
    · cases h
  · cases h
theorem Src.news {s : Nat} {rows : List (List C)} {ao : Option Addr} (h : Src G w s rows ao) (hpos : rows ≠ []) : ∃ (a : Addr) (news : List Value), ao = some a ∧ news.length = rows.length * s ∧ (∀ (j : Nat) u, news[j]? = some u → w.cell? (a.add j) = some u) ∧ (∀ u ∈ news, u.oneCell' = true) ∧
    ∀ i row j x, rows[i]? = some row → row[j]? = some x → j < s → CR G.kd w x (news.getD (i * s + j) undef) := by
  rcases h with h | ⟨b, o, rfl, h⟩
  · exact absurd h hpos
  · have hget : ∀ (j : Nat) u, ((List.range (rows.length * s)).map fun k => (w.cell? ⟨b, o + k, none⟩).getD undef)[j]? = some u → j < rows.length * s ∧ u = (w.cell? ⟨b, o + j, none⟩).getD undef := fun j u hu => by
      rw [List.getElem?_map] at hu
      cases hq : (List.range (rows.length * s))[j]? with
      | none => rw [hq] at hu; cases hu
      | some q =>
        rw [hq] at hu
        cases hu
        obtain ⟨q1, q2⟩ := List.getElem?_eq_some_iff.1 hq
        simp at q1 q2
        subst q2
        exact ⟨q1, rfl⟩
    refine ⟨⟨b, o, none⟩, (List.range (rows.length * s)).map fun k => (w.cell? ⟨b, o + k, none⟩).getD undef, rfl, by simp, fun j u hu => ?_, fun u hu => ?_, fun i row j x e1 e2 hj => ?_⟩
    · obtain ⟨h1, h2⟩ := hget j u hu
      obtain ⟨u', c1, _⟩ := h j h1
      rw [add_mk, c1, h2, c1]
      rfl
    · obtain ⟨j, hj⟩ := List.mem_iff_getElem?.1 hu
      obtain ⟨h1, h2⟩ := hget j u hj
      obtain ⟨u', c1, c2, _⟩ := h j h1
      rw [h2, c1]
      exact c2
    · have hlt := idx_lt hj (List.getElem?_eq_some_iff.1 e1).1
      obtain ⟨u', c1, c2, c3⟩ := h _ hlt
      have : ((List.range (rows.length * s)).map fun k => (w.cell? ⟨b, o + k, none⟩).getD undef).getD (i * s + j) undef = u' := by
        rw [List.getD_eq_getElem?_getD, List.getElem?_map, List.getElem?_range hlt]
        simp [c1]
      rw [this]
      exact c3 _ _ _ _ rfl e1 e2 hj
def dstR (m : List (Option Ob)) (n : Nat) (x : V) : Option (List (List C) × List (Option Ob)) :=
  match x with
  | .nl => some ([], m)
  | .ic es => some (es, m)
  | .sl id s off len cl => match obGet m id with
    | some (.arr s' es) => match cl with
      | true => if off + len ≤ es.length ∧ s = s' ∧ s = n then some ((es.drop off).take len, m) else none
      | false => if off + len = es.length ∧ s = s' ∧ s = n then some (es.drop off, m.set id none) else none
    | _ => none
  | _ => none
end
end Go.Proofs.YtogfcpaalcebdaaE
/- An engine for walks: append, what it leaves. -/
namespace Go.Proofs.YtogfcpaalcebdaaE
open Go Go.RowKit
set_option linter.unusedVariables false
set_option linter.unusedSimpArgs false
section
variable {P : Program} {T : Tab} {G G' : Gh} {w w' : World} {m m' : List (Option Ob)}
theorem run_room (t ty e : TypeId) (i : TypeInfo) (ht : P.underlying t = some (.slice e)) (hi : P.info? e = some i)
    (g o sLen sCap : Nat) (cur : Array Value) (te : TypeId) (hg : w.heap[g]? = some (.cells cur te (0, 0)))
    (a : Addr) (m c : Nat) (news : List Value) (hl : news.length = m * i.size) (hnews : ∀ j u, news[j]? = some u → w.cell? (a.add j) = some u) (h1 : ∀ u ∈ news, u.oneCell' = true)
    (hroom : sLen + m ≤ sCap) (hfit : o + sLen * i.size + news.length ≤ cur.size) :
    (Builtin.append_ #[t, t] ty #[.slice (some ⟨g, o, none⟩) sLen sCap, .slice (some a) m c]).run P w =
      .ok (.slice (some ⟨g, o, none⟩) (sLen + m) sCap) (w.setRow g (cur.toList.take (o + sLen * i.size) ++ news ++ cur.toList.drop (o + sLen * i.size + news.length)).toArray) := by
  have hf := run_firstCells_some (P := P) w i.size m a m c news hl hnews
  have hst := run_storeCells_at P g (o + sLen * i.size) te news 0 cur w hg (by simpa using hfit) h1
  simp only [Nat.add_zero] at hst
  simp [Builtin.append_, run_underlying ht, sizeOf, typeInfo, hi, Builtin.lenOf, hroom, hf, add_mk, hst]
theorem run_nothing (t ty e : TypeId) (i : TypeInfo) (ht : P.underlying t = some (.slice e)) (hi : P.info? e = some i) (ao bo : Option Addr) (n c c2 : Nat) (hnc : n ≤ c) :
    (Builtin.append_ #[t, t] ty #[.slice ao n c, .slice bo 0 c2]).run P w = .ok (.slice ao n c) w := by
  cases ao <;> cases bo <;> simp [Builtin.append_, run_underlying ht, sizeOf, typeInfo, hi, Builtin.lenOf, hnc, Builtin.firstCells, loadCells, loadCellsFrom, storeCells]
theorem Ok.none (hok : Ok G w m) {id s : Nat} (hid : id < m.length) (hf : G.loc id = none) : Ok { G with wd := upd G.wd id s } w (m.set id (some (.arr s []))) ∧ Adv G w { G with wd := upd G.wd id s } w := by
  have hext : Ext G w { G with wd := upd G.wd id s } w := ⟨fun id2 b o q => ⟨q, upd_ne (by rintro rfl; rw [hf] at q; cases q), rfl⟩, fun _ _ _ _ _ _ q => ⟨q, rfl⟩, fun _ q => ⟨q, rfl⟩⟩
  exact ⟨hok.put hid ⟨hext, ⟨rfl, rfl, rfl, Nat.le_refl _, fun _ _ _ => ⟨rfl, rfl⟩, fun _ _ => rfl⟩⟩ (fun _ _ _ _ _ => ⟨rfl, rfl⟩) (fun id2 hn => ⟨rfl, upd_ne hn, rfl⟩) hok.imm hok.new hok.lt hok.rlt hok.ver (hok.frl _) (fun o q => by cases q; exact ⟨upd_self _ _ _, by simp, .inl ⟨hf, rfl⟩⟩), ⟨hext, ⟨rfl, rfl, rfl, Nat.le_refl _, fun _ _ _ => ⟨rfl, rfl⟩, fun _ _ => rfl⟩⟩⟩
theorem hand_sound (hok : Ok G w m) {id0 id b o n s n0 p k : Nat} {R : Nat → Value → Prop} (hb : Blk G w id0 b o n R) {Cs : Array Value} {ty : TypeId} (hheap : w.heap[b]? = some (.cells Cs ty (0, 0))) (hid : id < m.length) (hf : G.loc id = none) (hdead : ¬ live m id0)
    {base rows : List (List C)} (hb1 : ∀ row ∈ base, row.length = s) (hr1 : ∀ row ∈ rows, row.length = s) (hsz : p + (base.length + rows.length) * s ≤ Cs.size)
    (hbase : ∀ i row j x, base[i]? = some row → row[j]? = some x → CR G.kd w x (Cs.getD (p + (i * s + j)) undef))
    {news : List Value} (hnl : news.length = rows.length * s) (hn1 : ∀ u ∈ news, u.oneCell' = true) (hnews : ∀ i row j x, rows[i]? = some row → row[j]? = some x → j < s → CR G.kd w x (news.getD (i * s + j) undef)) :
    let G' : Gh := { G with loc := upd G.loc id (some (b, p)), wd := upd G.wd id s, kd := upd G.kd b (.ob id) }
    let w' := w.setRow b (Cs.toList.take (p + base.length * s) ++ news ++ Cs.toList.drop (p + base.length * s + news.length)).toArray
    Ok G' w' (m.set id (some (.arr s (base ++ rows)))) ∧ Adv G w G' w' := by
  intro G' w'
  have hlt := blk_size hb
  have hszb : G.sz b = Cs.size := by
    obtain ⟨_, _, Cs', ty', h3, h4, _⟩ := hb
    rw [hheap] at h3
    cases h3
    exact h4
  have hone : ∀ v ∈ Cs, v.oneCell' = true := by
    obtain ⟨_, _, Cs', ty', h3, _, _, h6, _⟩ := hb
    rw [hheap] at h3
    cases h3
    exact h6
  have hadd : (base.length + rows.length) * s = base.length * s + rows.length * s := Nat.add_mul _ _ _
  have ht : (Cs.toList.take (p + base.length * s)).length = p + base.length * s := by simp; omega
  have hsize : (Cs.toList.take (p + base.length * s) ++ news ++ Cs.toList.drop (p + base.length * s + news.length)).toArray.size = Cs.size := by simp; omega
  have hadv : Adv G w G' w' := by
    refine ⟨⟨fun id2 b2 o2 q => ?_, fun _ _ _ _ _ _ q => ⟨q, rfl⟩, fun b2 q => ?_⟩, ⟨rfl, rfl, rfl, by simp [w'], fun b2 _ q => ?_, fun _ _ => rfl⟩⟩
    · have : id2 ≠ id := by rintro rfl; rw [hf] at q; cases q
      exact ⟨by simp only [G', upd_ne this]; exact q, by simp only [G', upd_ne this], rfl⟩
    · have : b2 ≠ b := by rintro rfl; exact hb.own.2 q
      exact ⟨by simp only [G', upd_ne this]; exact q, setRow_other w b b2 _ this⟩
    · have : b2 ≠ b := by
        rintro rfl
        rcases q with q | q
        · exact hb.own.1 q
        · exact hb.own.2 q
      exact ⟨setRow_other w b b2 _ this, by simp only [G', upd_ne this]⟩
  refine ⟨hok.put hid hadv (fun b2 id2 hne hl hown => ?_) (fun id2 hn => ⟨upd_ne hn, upd_ne hn, rfl⟩) (fun b2 q => ?_) (fun b2 q => ?_) (fun id3 b3 o3 q => ?_) (fun i j k v b o q => by simp [w']; exact hok.rlt i j k v b o q) hok.ver (fun q => by rw [show G'.loc id = _ from upd_self _ _ _] at q; cases q) (fun o q => ?_), hadv⟩
  · have : b2 ≠ b := by
      rintro rfl
      rcases hown with q | ⟨_, _, _, q⟩ <;> rw [hb.kd] at q <;> cases q
      exact hdead hl
    exact ⟨upd_ne this, setRow_other w b b2 _ this⟩
  · by_cases e : b2 = b
    · subst e; simp [w']; exact hlt
    · simp only [G', upd_ne e] at q; simp [w']; exact hok.imm b2 q
  · simp [w'] at q
    simp only [G', upd_ne (show b2 ≠ b by omega)]
    exact hok.new b2 q
  · simp only [G'] at q
    simp [w']
    by_cases e : id3 = id
    · subst e; rw [upd_self] at q; cases q; exact hlt
    · rw [upd_ne e] at q; exact hok.lt id3 b3 o3 q
  · cases q
    refine ⟨upd_self _ _ _, fun row hr => ?_, .inr ⟨b, p, upd_self _ _ _, upd_self _ _ _, _, ty, setRow_heap w b Cs _ ty _ hheap, ?_, ?_, fun v hv => ?_, fun k hk i row j x e1 e2 e3 => ?_⟩⟩
    · rcases List.mem_append.1 hr with h | h
      · exact hb1 row h
      · exact hr1 row h
    · rw [hsize]; exact hszb
    · rw [hsize, List.length_append]; exact hsz
    · simp only [List.mem_toArray, List.mem_append] at hv
      rcases hv with (hv | hv) | hv
      · exact hone v (Array.mem_toList_iff.1 (List.mem_of_mem_take hv))
      · exact hn1 v hv
      · exact hone v (Array.mem_toList_iff.1 (List.mem_of_mem_drop hv))
    · have hj : j < s := by
        rcases List.mem_append.1 (List.mem_of_getElem? e2) with h | h
        · rw [← hb1 row h]; exact (List.getElem?_eq_some_iff.1 e3).1
        · rw [← hr1 row h]; exact (List.getElem?_eq_some_iff.1 e3).1
      subst e1
      have hgd : ∀ q, (Cs.toList.take (p + base.length * s) ++ news ++ Cs.toList.drop (p + base.length * s + news.length)).toArray.getD q undef = ((Cs.toList.take (p + base.length * s) ++ news ++ Cs.toList.drop (p + base.length * s + news.length))[q]?).getD undef := fun q => by simp
      rw [hgd]
      by_cases hi : i < base.length
      · rw [List.getElem?_append_left hi] at e2
        have hlt2 := idx_lt hj hi
        rw [List.append_assoc, List.getElem?_append_left (by omega), List.getElem?_take, if_pos (by omega)]
        have := hbase i row j x e2 e3
        have e4 : (Cs.toList[p + (i * s + j)]?).getD undef = Cs.getD (p + (i * s + j)) undef := by simp
        rw [e4]
        exact this.mono hadv.ext.imm
      · rw [List.getElem?_append_right (by omega)] at e2
        have hi2 := (List.getElem?_eq_some_iff.1 e2).1
        have hlt2 := idx_lt hj hi2
        have e5 : p + (i * s + j) = p + base.length * s + ((i - base.length) * s + j) := by
          have : i = base.length + (i - base.length) := by omega
          rw [this, Nat.add_mul]
          simp
          omega
        rw [e5, List.append_assoc, List.getElem?_append_right (by omega), ht, Nat.add_sub_cancel_left, List.getElem?_append_left (by omega)]
        have := hnews _ row j x e2 e3 hj
        rw [List.getD_eq_getElem?_getD] at this
        exact this.mono hadv.ext.imm
end
end Go.Proofs.YtogfcpaalcebdaaE
/- An engine for walks: append, whole. -/
namespace Go.Proofs.YtogfcpaalcebdaaE
open Go Go.RowKit
set_option linter.unusedVariables false
set_option linter.unusedSimpArgs false
section
variable {P : Program} {T : Tab} {G G' : Gh} {w w' : World} {m m' : List (Option Ob)}
theorem grow_sound (hok : Ok G w m) {id s : Nat} (hid : id < m.length) (hf : G.loc id = none) {base rows : List (List C)} (hb1 : ∀ row ∈ base, row.length = s) (hr1 : ∀ row ∈ rows, row.length = s)
    {olds news : List Value} (hol : olds.length = base.length * s) (hnl : news.length = rows.length * s) (ho1 : ∀ u ∈ olds, u.oneCell' = true) (hn1 : ∀ u ∈ news, u.oneCell' = true)
    (holds : ∀ i row j x, base[i]? = some row → row[j]? = some x → j < s → CR G.kd w x (olds.getD (i * s + j) undef)) (hnews : ∀ i row j x, rows[i]? = some row → row[j]? = some x → j < s → CR G.kd w x (news.getD (i * s + j) undef))
    (z : Array Value) (hz : z.size = s) (hs : 0 < s) (hz1 : ∀ v ∈ z, v.oneCell' = true) (cap : Nat) (hcap : base.length + rows.length ≤ cap) (hcm : cap ≤ maxLen) (ty : TypeId) :
    ∃ G', Ok G' (w.drew.alloc (.cells (olds.toArray ++ news.toArray ++ Builtin.zeroCells z (cap - (base.length + rows.length))) ty)) (m.set id (some (.arr s (base ++ rows)))) ∧ Adv G w G' (w.drew.alloc (.cells (olds.toArray ++ news.toArray ++ Builtin.zeroCells z (cap - (base.length + rows.length))) ty)) ∧
      VR G' (w.drew.alloc (.cells (olds.toArray ++ news.toArray ++ Builtin.zeroCells z (cap - (base.length + rows.length))) ty)) (.sl id s 0 (base.length + rows.length) false) (.slice (some ⟨w.heap.size, 0, none⟩) (base.length + rows.length) cap) ∧ ∀ j, j ≠ id → G'.loc j = G.loc j := by
  have hadd : (base.length + rows.length) * s = base.length * s + rows.length * s := Nat.add_mul _ _ _
  have hzs : (Builtin.zeroCells z (cap - (base.length + rows.length))).size = (cap - (base.length + rows.length)) * s := by rw [size_zeroCells, hz]
  have hsize : (olds.toArray ++ news.toArray ++ Builtin.zeroCells z (cap - (base.length + rows.length))).size = cap * s := by
    simp only [Array.size_append, List.size_toArray, hzs, hol, hnl]
    rw [← hadd, ← Nat.add_mul]
    congr 1
    omega
  have hone : ∀ v ∈ olds.toArray ++ news.toArray ++ Builtin.zeroCells z (cap - (base.length + rows.length)), v.oneCell' = true := fun v hv => by
    simp only [Array.mem_append, List.mem_toArray] at hv
    rcases hv with (hv | hv) | hv
    · exact ho1 v hv
    · exact hn1 v hv
    · unfold Builtin.zeroCells at hv
      obtain ⟨k, hk, rfl⟩ := Array.getElem_of_mem hv
      have hmod : k % z.size < z.size := Nat.mod_lt _ (by omega)
      simp [hmod]
      exact hz1 _ (Array.getElem_mem hmod)
  have hk := (Ok.drew hok).arr hid hf (es := base ++ rows) (Cs := olds.toArray ++ news.toArray ++ Builtin.zeroCells z (cap - (base.length + rows.length))) hone (fun row hr => by
      rcases List.mem_append.1 hr with h | h
      · exact hb1 row h
      · exact hr1 row h) (by rw [hsize, List.length_append]; exact Nat.mul_le_mul_right _ hcap) (fun i row j x e1 e2 => by
      have hj : j < s := by
        rcases List.mem_append.1 (List.mem_of_getElem? e1) with h | h
        · rw [← hb1 row h]; exact (List.getElem?_eq_some_iff.1 e2).1
        · rw [← hr1 row h]; exact (List.getElem?_eq_some_iff.1 e2).1
      have hgd : ∀ q, q < base.length * s + rows.length * s → (olds.toArray ++ news.toArray ++ Builtin.zeroCells z (cap - (base.length + rows.length))).getD q undef = (olds ++ news).getD q undef := fun q hq => by
        rw [Array.getD_eq_getD_getElem?, Array.getElem?_append_left (by simp; omega), List.getD_eq_getElem?_getD]
        simp
      by_cases hi : i < base.length
      · rw [List.getElem?_append_left hi] at e1
        have hlt2 := idx_lt hj hi
        rw [hgd _ (by omega), List.getD_eq_getElem?_getD, List.getElem?_append_left (by omega)]
        have := holds i row j x e1 e2 hj
        rw [List.getD_eq_getElem?_getD] at this
        exact this.mono (fun b q => ⟨q, rfl⟩)
      · rw [List.getElem?_append_right (by omega)] at e1
        have hi2 := (List.getElem?_eq_some_iff.1 e1).1
        have hlt2 := idx_lt hj hi2
        have e5 : i * s + j = base.length * s + ((i - base.length) * s + j) := by
          have : i = base.length + (i - base.length) := by omega
          rw [this, Nat.add_mul]
          simp
          omega
        rw [hgd _ (by omega), List.getD_eq_getElem?_getD, e5, List.getElem?_append_right (by omega), hol, Nat.add_sub_cancel_left]
        have := hnews _ row j x e1 e2 hj
        rw [List.getD_eq_getElem?_getD] at this
        exact this.mono (fun b q => ⟨q, rfl⟩)) ty
  refine ⟨_, hk, (Adv.drew G w).trans (adv_new (Ok.drew hok) (s := s) hf _ ty), ?_, fun j hj => upd_ne hj⟩
  exact sl_new G _ id w.heap.size s _ _ cap false hcap (fun q => by cases q) hcm (by rw [hsize]; exact Nat.le_refl _)
theorem live_kill {id : Nat} : ¬ live (m.set id none) id := by
  rintro ⟨o, h⟩
  rw [List.getElem?_set, if_pos rfl] at h
  split at h <;> cases h
theorem getD_one {l : List Value} {k : Nat} (h : k < l.length) : l.getD k undef ∈ l := by
  rw [List.getD_eq_getElem?_getD, List.getElem?_eq_getElem h]
  exact List.getElem_mem _
theorem append_sound (hT : TOk P T) (hok : Ok G w m) {t e ty : TypeId} {ti i : TI} (ht : look T t = some ti) (hd : ti.td = .slc e) (hi : look T e = some i) {x y : V} {v u : Value} (hx : VR G w x v) (hy : VR G w y u)
    {base rows : List (List C)} {m1 : List (Option Ob)} (hb : dstR m i.n x = some (base, m1)) (hr : srcR m y = some rows) (h1 : ∀ row ∈ rows, row.length = i.n) (h2 : ∀ row ∈ base, row.length = i.n)
    (hlen : (base.length + rows.length) * i.by_ ≤ 140737488355328) (h63 : base.length + rows.length ≤ 9223372036854775807) (hc : rows ≠ [] ∨ base = [] ∨ ∃ id s off len, x = .sl id s off len false) {id : Nat} (hid : id < m.length) (hf : G.loc id = none) :
    ∃ r w' G', (Builtin.append_ #[t, t] ty #[v, u]).run P w = .ok r w' ∧ Ok G' w' (m1.set id (some (.arr i.n (base ++ rows)))) ∧ Adv G w G' w' ∧ VR G' w' (.sl id i.n 0 (base.length + rows.length) false) r ∧ ∀ j, j ≠ id → G'.loc j = G.loc j := by
  have hi' := hT _ _ hi
  obtain ⟨d, info, _, hinfo, hsz, hby, hzv, _⟩ := hi'.ex
  have hu := (hT _ _ ht).slc hd
  have hzo : ∀ v ∈ i.zv.cells, v.oneCell' = true := fun v hv => one_of_zcell (hi'.z v hv)
  obtain ⟨bo, c2, rfl, hsrc⟩ := src_sound hok hy hr h1
  have hmx : (2 : Nat) ^ 63 - 1 = 9223372036854775807 := by decide
  -- what is appended to
  have hdst : ∃ ao cap, v = .slice ao base.length cap ∧ base.length ≤ cap ∧ cap ≤ maxLen ∧ Src G w i.n base ao ∧ (base = [] → cap = 0 → True) ∧ Ok G w m1 ∧ id < m1.length ∧ (ao = none → base = [] ∧ cap = 0) ∧
      ((cap = base.length ∧ (rows = [] → base = [])) ∨ (cap = 0 ∧ base = []) ∨ ∃ id0 b o n R p Cs te, Blk G w id0 b o n R ∧ ¬ live m1 id0 ∧ w.heap[b]? = some (.cells Cs te (0, 0)) ∧ ao = some ⟨b, p, none⟩ ∧ p + cap * i.n ≤ Cs.size ∧ (∀ i' row j x, base[i']? = some row → row[j]? = some x → CR G.kd w x (Cs.getD (p + (i' * i.n + j)) undef))) := by
    unfold dstR at hb
    split at hb
    · cases hb
      cases hx
      exact ⟨none, 0, rfl, Nat.le_refl _, Nat.zero_le _, .inl rfl, fun _ _ => trivial, hok, hid, fun _ => ⟨rfl, rfl⟩, .inl ⟨rfl, fun _ => rfl⟩⟩
    · rename_i es
      cases hb
      cases hx with
      | @ic _ ao hx =>
        refine ⟨ao, _, rfl, Nat.le_refl _, by cases hx with | ls f hcap hmax _ _ _ _ => exact hmax, .of_CR hx h2, fun _ _ => trivial, hok, hid, fun e => ?_, .inl ⟨rfl, fun q => ?_⟩⟩
        · subst e
          cases hx with
          | ls f hcap hmax hao _ _ _ =>
            have : ¬ 0 < base.length := fun q => by have := (hao q).1; cases this
            have : base.length = 0 := by omega
            exact ⟨List.eq_nil_of_length_eq_zero this, this⟩
        · rcases hc with h | h | ⟨_, _, _, _, h⟩
          · exact absurd q h
          · exact h
          · cases h
    · rename_i id0 s off len cl
      split at hb
      · rename_i s' es hg
        have hm := obGet_some hg
        obtain ⟨hw, hrl, h3⟩ := hok.ob id0 _ hm
        cases hx with
        | @sl _ _ _ _ cap _ ao p1 p2 p3 p4 =>
        have srcv : off + len ≤ es.length → s = s' → s = i.n → base = (es.drop off).take len → ∃ ao' cap', Value.slice ao len cap = .slice ao' base.length cap' ∧ Src G w i.n base ao' := fun q1 q2 q3 q4 => by
          have q := src_sound (s := i.n) (rows := base) hok (VR.sl (id := id0) (s := s) (off := off) (len := len) (cl := cl) p1 p2 p3 p4) (by simp only [srcR, hg]; rw [if_pos ⟨q1, q2⟩, q4]) h2
          exact q
        have hnone : ao = none → cap = 0 := fun q => by
          rcases Nat.eq_zero_or_pos cap with h | h
          · exact h
          · obtain ⟨b, o, _, _, h', _⟩ := p4 h
            rw [q] at h'
            cases h'
        split at hb
        · split at hb
          · rename_i hcond
            cases hb
            obtain ⟨q1, q2, q3⟩ := hcond
            have hl : ((es.drop off).take len).length = len := by simp; omega
            have hcap := p2 rfl
            subst hcap
            obtain ⟨ao', cap', e1, e2⟩ := srcv q1 q2 q3 rfl
            rw [hl] at e1
            cases e1
            refine ⟨ao, cap, by rw [hl], by rw [hl]; exact Nat.le_refl _, p3, e2, fun _ _ => trivial, hok, hid, fun q => ?_, .inl ⟨hl.symm, fun q => ?_⟩⟩
            · have := hnone q
              subst this
              exact ⟨by simp, rfl⟩
            · rcases hc with h | h | ⟨_, _, _, _, h⟩
              · exact absurd q h
              · exact h
              · cases h
          · cases hb
        · split at hb
          · rename_i hcond
            cases hb
            obtain ⟨q1, q2, q3⟩ := hcond
            subst q2
            subst q3
            have hl : (es.drop off).length = len := by simp; omega
            have htk : (es.drop off).take len = es.drop off := List.take_of_length_le (by omega)
            obtain ⟨ao', cap', e1, e2⟩ := srcv (by omega) rfl rfl htk.symm
            rw [hl] at e1
            cases e1
            refine ⟨ao, cap, by rw [hl], by rw [hl]; exact p1, p3, e2, fun _ _ => trivial, hok.kill id0, by simpa using hid, fun q => ?_, ?_⟩
            · have := hnone q
              subst this
              exact ⟨List.eq_nil_of_length_eq_zero (by omega), rfl⟩
            · rcases Nat.eq_zero_or_pos cap with h0 | h0
              · subst h0
                exact .inr (.inl ⟨rfl, List.eq_nil_of_length_eq_zero (by omega)⟩)
              · obtain ⟨b, o, a1, a2, a3, a4⟩ := p4 h0
                rcases h3 with ⟨h3, _⟩ | ⟨b', o', hbk⟩
                · rw [a1] at h3; cases h3
                have e := hbk.loc
                rw [a1] at e
                cases e
                have hbk' := hbk
                obtain ⟨_, _, Cs, te, k3, k4, k5, k6, k7⟩ := hbk'
                refine .inr (.inr ⟨id0, b, o, _, _, o + off * i.n, Cs, te, hbk, live_kill, k3, a3, by rw [Nat.add_mul] at a4; omega, fun i' row j x e1 e2 => ?_⟩)
                rw [List.getElem?_drop] at e1
                have hj : j < i.n := by rw [← hrl row (List.mem_of_getElem? e1)]; exact (List.getElem?_eq_some_iff.1 e2).1
                have := k7 _ (idx_lt hj (List.getElem?_eq_some_iff.1 e1).1) _ _ _ _ rfl e1 e2
                rw [Nat.add_mul] at this
                rw [show o + off * i.n + (i' * i.n + j) = o + (off * i.n + i' * i.n + j) by omega]
                exact this
          · cases hb
      · cases hb
    · cases hb
  obtain ⟨ao, cap, rfl, hle, hcm, hds, _, hok1, hid1, hnone, hcase⟩ := hdst
  by_cases hroom : base.length + rows.length ≤ cap
  · by_cases hre : rows = []
    · subst hre
      have hrun := run_nothing (P := P) (w := w) t ty e info hu hinfo ao bo base.length cap c2 hle
      have empty : base = [] → cap = 0 → ∃ r w' G', (Builtin.append_ #[t, t] ty #[.slice ao base.length cap, .slice bo ([] : List (List C)).length c2]).run P w = .ok r w' ∧ Ok G' w' (m1.set id (some (.arr i.n (base ++ [])))) ∧ Adv G w G' w' ∧ VR G' w' (.sl id i.n 0 (base.length + ([] : List (List C)).length) false) r ∧ ∀ j, j ≠ id → G'.loc j = G.loc j := fun hb0 hc0 => by
        subst hb0
        subst hc0
        obtain ⟨k1, k2⟩ := hok1.none (s := i.n) hid1 hf
        exact ⟨_, w, _, hrun, k1, k2, .sl (Nat.le_refl _) (fun q => by cases q) (Nat.zero_le _) (fun q => absurd q (by simp)), fun _ _ => rfl⟩
      rcases hcase with ⟨h1', h2'⟩ | ⟨h1', h2'⟩ | ⟨id0, b, o, n, R, p, Cs, te, k1, k2, k3, k4, k5, k6⟩
      · exact empty (h2' rfl) (by rw [h1', h2' rfl]; rfl)
      · exact empty h2' h1'
      · have hbl : base.length * i.n ≤ cap * i.n := Nat.mul_le_mul_right _ hle
        obtain ⟨q1, q2⟩ := hand_sound hok1 (s := i.n) (n0 := 0) (k := 0) (base := base) (rows := []) (news := []) k1 k3 hid1 hf k2 h2 h1 (by simp; omega) k6 (by simp) (by simp) (by simp)
        have hself : w.setRow b (Cs.toList.take (p + base.length * i.n) ++ [] ++ Cs.toList.drop (p + base.length * i.n + ([] : List Value).length)).toArray = w := by
          rw [List.append_nil, List.length_nil, Nat.add_zero, List.take_append_drop, Array.toArray_toList]
          exact setRow_self w b Cs te (0, 0) k3
        rw [hself] at q1 q2
        refine ⟨_, w, _, hrun, q1, q2, .sl hle (fun q => by cases q) hcm fun _ => ⟨b, p, upd_self _ _ _, upd_self _ _ _, by simpa using k4, ?_⟩, fun j hj => upd_ne hj⟩
        obtain ⟨_, _, Cs', te', d3, d4, _⟩ := k1
        rw [k3] at d3
        cases d3
        simp only [d4]
        simpa using k5
    · have hpos : 0 < rows.length := List.length_pos_iff.2 hre
      obtain ⟨a, news, rfl, n1, n2, n3, n4⟩ := hsrc.news hre
      rcases hcase with ⟨h1', h2'⟩ | ⟨h1', h2'⟩ | ⟨id0, b, o, n, R, p, Cs, te, k1, k2, k3, rfl, k5, k6⟩
      · omega
      · omega
      · have hbl : (base.length + rows.length) * i.n ≤ cap * i.n := Nat.mul_le_mul_right _ hroom
        have hadd : (base.length + rows.length) * i.n = base.length * i.n + rows.length * i.n := Nat.add_mul _ _ _
        have hrun := run_room (P := P) (w := w) t ty e info hu hinfo b p base.length cap Cs te k3 a rows.length c2 news (by rw [hsz]; exact n1) n2 n3 hroom (by rw [hsz, n1]; omega)
        rw [hsz] at hrun
        obtain ⟨q1, q2⟩ := hand_sound hok1 (s := i.n) (n0 := 0) (k := 0) (base := base) (rows := rows) (news := news) k1 k3 hid1 hf k2 h2 h1 (by omega) k6 n1 n3 n4
        refine ⟨_, _, _, hrun, q1, q2, .sl hroom (fun q => by cases q) hcm fun _ => ⟨b, p, upd_self _ _ _, upd_self _ _ _, by simp, ?_⟩, fun j hj => upd_ne hj⟩
        obtain ⟨_, _, Cs', te', d3, d4, _⟩ := k1
        rw [k3] at d3
        cases d3
        simp only [d4]
        simpa using k5
  · have hre : rows ≠ [] := by rintro rfl; simp at hroom; omega
    have hpos : 0 < rows.length := List.length_pos_iff.2 hre
    obtain ⟨a, news, rfl, n1, n2, n3, n4⟩ := hsrc.news hre
    have hgc := grownCap_ge w (base.length + rows.length) cap e
    have hgm := grownCap_le_maxLen w (base.length + rows.length) cap e (by simp only [maxLen]; omega)
    cases ao with
    | none =>
      obtain ⟨rfl, rfl⟩ := hnone rfl
      simp only [List.length_nil, Nat.zero_add] at *
      have hrun := run_append_nil (P := P) w t ty e info i.zv hu hinfo hzv a rows.length c2 news (by rw [hsz]; exact n1) n2 hpos (by omega) (by rw [hby]; omega)
      obtain ⟨G', q1, q2, q3, q4⟩ := grow_sound hok1 (s := i.n) hid1 hf (base := []) (rows := rows) h2 h1 (olds := []) (news := news) (by simp) n1 (by simp) n3 (by simp) n4 i.zv.cells hi'.sz hi'.pos hzo (grownCap w rows.length 0 e) (by simpa using hgc) hgm e
      simp only [List.length_nil, Nat.zero_add, Array.empty_append, List.nil_append] at q1 q2 q3
      exact ⟨_, _, G', hrun, q1, q2, q3, q4⟩
    | some ad =>
      have holds : ∃ olds : List Value, olds.length = base.length * i.n ∧ (∀ j u, olds[j]? = some u → w.cell? (ad.add j) = some u) ∧ (∀ u ∈ olds, u.oneCell' = true) ∧ ∀ i' row j x, base[i']? = some row → row[j]? = some x → j < i.n → CR G.kd w x (olds.getD (i' * i.n + j) undef) := by
        by_cases hb0 : base = []
        · subst hb0
          exact ⟨[], by simp, by simp, by simp, by simp⟩
        · obtain ⟨ad', olds, e0, o1, o2, o3, o4⟩ := hds.news hb0
          cases e0
          exact ⟨olds, o1, o2, o3, o4⟩
      obtain ⟨olds, o1, o2, o3, o4⟩ := holds
      have hrun := run_append_grow (P := P) w t ty e info i.zv hu hinfo hzv ad base.length cap olds (by rw [hsz]; exact o1) o2 a rows.length c2 news (by rw [hsz]; exact n1) n2 (by omega) (by omega) (growslice_fits (by omega) (by rw [hby]; exact hlen))
      obtain ⟨G', q1, q2, q3, q4⟩ := grow_sound hok1 (s := i.n) hid1 hf (base := base) (rows := rows) h2 h1 (olds := olds) (news := news) o1 n1 o3 n3 o4 n4 i.zv.cells hi'.sz hi'.pos hzo (grownCap w (base.length + rows.length) cap e) hgc hgm e
      exact ⟨_, _, G', hrun, q1, q2, q3, q4⟩
end
end Go.Proofs.YtogfcpaalcebdaaE
/- An engine for walks: rows that are laid into an array. -/
namespace Go.Proofs.YtogfcpaalcebdaaE
open Go Go.RowKit
set_option linter.unusedVariables false
set_option linter.unusedSimpArgs false
section
variable {P : Program} {T : Tab} {G G' : Gh} {w w' : World} {m m' : List (Option Ob)}
def updR (f : Nat → Nat → Nat → Nat → Option (Nat × Nat)) (a b c d : Nat) (x : Option (Nat × Nat)) : Nat → Nat → Nat → Nat → Option (Nat × Nat) := fun a' b' c' d' => if a' = a ∧ b' = b ∧ c' = c ∧ d' = d then x else f a' b' c' d'
theorem updR_self (f : Nat → Nat → Nat → Nat → Option (Nat × Nat)) (a b c d : Nat) (x : Option (Nat × Nat)) : updR f a b c d x a b c d = x := by simp [updR]
theorem updR_ne {f : Nat → Nat → Nat → Nat → Option (Nat × Nat)} {a b c d a' b' c' d' : Nat} {x : Option (Nat × Nat)} (h : ¬ (a' = a ∧ b' = b ∧ c' = c ∧ d' = d)) : updR f a b c d x a' b' c' d' = f a' b' c' d' := by simp only [updR, if_neg h]
theorem setrow_sound (hok : Ok G w m) {id k off s : Nat} {es : List (List D)} {row : List D} {y : D} (hm : m[id]? = some (some (.arw s es))) (hrow : es[k]? = some row) (hy : row[off]? = some y) {r : List C} {ao : Option Addr} {cap : Nat} (h1 : r.length ≤ cap) (h2 : cap ≤ maxLen)
    (h3 : cap = 0 ∨ ∃ b o Cs ty, ao = some ⟨b, o, none⟩ ∧ G.kd b ≠ .no ∧ G.kd b ≠ .imm ∧ (∀ id2, id2 ≠ id → live m id2 → ¬ Own G id2 b) ∧ G.kd b ≠ .ob id ∧ (∀ i j ver, ¬ (i = k ∧ j = off) → G.kd b ≠ .rw id i j ver) ∧ w.heap[b]? = some (.cells Cs ty (0, 0)) ∧ G.sz b = Cs.size ∧ o + cap ≤ Cs.size ∧ (∀ v ∈ Cs, v.oneCell' = true) ∧ ∀ q x, r[q]? = some x → CR G.kd w x (Cs.getD (o + q) undef)) :
    ∃ b0 o0, G.loc id = some (b0, o0) ∧ (∃ u, w.cell? ⟨b0, o0 + k * G.wd id + off, none⟩ = some u) ∧ w.frozen? ⟨b0, o0 + k * G.wd id + off, none⟩ = false ∧
      ∃ ver G', Ok G' (w.setCell ⟨b0, o0 + k * G.wd id + off, none⟩ (.slice ao r.length cap)) (m.set id (some (.arw s (es.set k (row.set off (.ow r ver)))))) ∧ Adv G w G' (w.setCell ⟨b0, o0 + k * G.wd id + off, none⟩ (.slice ao r.length cap)) ∧ ∀ j, G'.loc j = G.loc j := by
  obtain ⟨hw, hr, q⟩ := hok.ob id _ hm
  rcases q with ⟨_, q⟩ | ⟨b0, o0, hb⟩
  · rw [q] at hrow; cases hrow
  have hj : off < s := by rw [← hr row (List.mem_of_getElem? hrow)]; exact (List.getElem?_eq_some_iff.1 hy).1
  have hk := (List.getElem?_eq_some_iff.1 hrow).1
  have hjj := idx_lt hj hk
  obtain ⟨u, c1, c2, c3, c4⟩ := hb.cell (j := k * s + off) hjj
  obtain ⟨n, hver⟩ := hok.ver
  have hfresh : ∀ i j, G.rl id i j n = none := fun i j => hver id i j n (Nat.le_refl _)
  refine ⟨b0, o0, hb.loc, ⟨u, by rw [hw, Nat.add_assoc]; exact c1⟩, by rw [hw, Nat.add_assoc]; exact c4, n, ?_⟩
  rw [hw, Nat.add_assoc]
  have hset := Adv.setCell (w := w) (j := o0 + (k * s + off)) hb.own (.slice ao r.length cap)
  -- the array itself, in whatever state the row's own block is
  have main : ∀ (G1 : Gh), Ext G w G1 (w.setCell ⟨b0, o0 + (k * s + off), none⟩ (.slice ao r.length cap)) → G1.kd b0 = G.kd b0 → (∀ b i j ver, ¬ (i = k ∧ j = off) → G.kd b = .rw id i j ver → G1.kd b = G.kd b) → (∀ i j ver, ¬ (i = k ∧ j = off) → G.rl id i j ver = none → G1.rl id i j ver = none) → G1.wd id = G.wd id →
      DR G1 (w.setCell ⟨b0, o0 + (k * s + off), none⟩ (.slice ao r.length cap)) id k off (.ow r n) (.slice ao r.length cap) → OR G1 (w.setCell ⟨b0, o0 + (k * s + off), none⟩ (.slice ao r.length cap)) id (.arw s (es.set k (row.set off (.ow r n)))) := fun G1 he hk0 hk1 hk2 hwd hD => by
    refine ⟨hwd.trans hw, row_set hr hrow, .inr ⟨b0, o0, ?_⟩⟩
    rw [List.length_set]
    have st := hb.store (v := .slice ao r.length cap) hjj rfl (R' := fun n' v => ∀ i row' j x, n' = i * s + j → (es.set k (row.set off (.ow r n)))[i]? = some row' → row'[j]? = some x → DR G1 (w.setCell ⟨b0, o0 + (k * s + off), none⟩ (.slice ao r.length cap)) id i j x v) (fun i r' j x' e1 e2 e3 => ?_) (fun n' u hn hne hu i r' j x' e1 e2 e3 => ?_)
    · obtain ⟨s1, s2, Cs, ty, s3, s4, s5, s6, s7⟩ := st
      obtain ⟨t1, t2, t3⟩ := he.loc _ _ _ s1
      exact ⟨t1, hk0.trans s2, Cs, ty, s3, t3.trans s4, s5, s6, s7⟩
    · have hj' : j < s := by rw [← row_set hr hrow r' (List.mem_of_getElem? e2)]; exact (List.getElem?_eq_some_iff.1 e3).1
      obtain ⟨rfl, rfl⟩ := idx_inj hj hj' e1
      rw [set_same hrow e2 e3]
      exact hD
    · have hij : ¬ (i = k ∧ j = off) := fun q => hne (by rw [e1, q.1, q.2])
      obtain ⟨r2, p1, p2⟩ := set_get hrow hij e2 e3
      refine (hu i r2 j x' e1 p1 p2).mono he (fun b ver q => ⟨hk1 b i j ver hij q, Below.heap_setCell w _ _ b fun e => ?_⟩) (fun ver q => hk2 i j ver hij q)
      subst e
      rw [hb.kd] at q
      cases q
  rcases h3 with rfl | ⟨b, o, Cs, ty, rfl, k1, k2, k3, k4, k5, k6, k7, k8, k9, k10⟩
  · refine ⟨G, hok.setOb hb (live_lt hm) (main G hset.ext rfl (fun _ _ _ _ _ _ => rfl) (fun _ _ _ _ q => q) rfl ⟨ao, 0, rfl, h1, h2, .inl ⟨rfl, hfresh _ _⟩⟩), hset, fun _ => rfl⟩
  · have hbb : b ≠ b0 := by rintro rfl; exact k4 hb.kd
    have hblt : b < w.heap.size := (Array.getElem?_eq_some_iff.1 k6).1
    have hadv : Adv G w { G with kd := upd G.kd b (.rw id k off n), rl := updR G.rl id k off n (some (b, o)) } (w.setCell ⟨b0, o0 + (k * s + off), none⟩ (.slice (some ⟨b, o, none⟩) r.length cap)) := by
      have ha := adv_kd (w := w) (k := .rw id k off n) k1 k2
      refine ⟨⟨hset.ext.loc, fun i' j' q ver b2 o2 e => ⟨?_, rfl⟩, fun b2 q => ⟨(ha.ext.imm b2 q).1, (hset.ext.imm b2 q).2⟩⟩, ⟨rfl, rfl, rfl, by simp, fun b2 hb2 q => ⟨(hset.tr.blk b2 hb2 q).1, (ha.tr.blk b2 hb2 q).2⟩, fun _ _ => rfl⟩⟩
      show updR G.rl id k off n (some (b, o)) i' j' q ver = _
      rw [updR_ne]
      · exact e
      · rintro ⟨rfl, rfl, rfl, rfl⟩
        rw [hfresh] at e
        cases e
    refine ⟨_, hok.put (live_lt hm) hadv (fun b2 id2 hne hl hown => ⟨upd_ne ?_, Below.heap_setCell w _ _ b2 fun e => ?_⟩) (fun id2 hne => ⟨rfl, rfl, ?_⟩) (fun b2 q => ?_) (fun b2 q => ?_) (fun i b o q => by simp; exact hok.lt i b o q) (fun i j q ver b2 o2 e => ?_) ⟨n + 1, fun i j q v hv => ?_⟩ (fun q => by rw [show G.loc id = _ from hb.loc] at q; cases q) (fun o' q => ?_), hadv, fun _ => rfl⟩
    · rintro rfl
      exact k3 id2 hne hl hown
    · subst e
      rcases hown with q | ⟨_, _, _, q⟩ <;> rw [hb.kd] at q <;> cases q
      exact hne rfl
    · funext i j v
      exact updR_ne fun q => hne q.1
    · by_cases e : b2 = b
      · subst e; simp; exact hblt
      · simp only [upd_ne e] at q; simp; exact hok.imm b2 q
    · simp at q
      simp only [upd_ne (show b2 ≠ b by omega)]
      exact hok.new b2 q
    · simp
      by_cases e2 : i = id ∧ j = k ∧ q = off ∧ ver = n
      · obtain ⟨rfl, rfl, rfl, rfl⟩ := e2
        replace e : updR G.rl i j q ver (some (b, o)) i j q ver = some (b2, o2) := e
        rw [updR_self] at e
        cases e
        exact hblt
      · replace e : updR G.rl id k off n (some (b, o)) i j q ver = some (b2, o2) := e
        rw [updR_ne e2] at e
        exact hok.rlt _ _ _ _ _ _ e
    · show updR G.rl id k off n (some (b, o)) i j q v = none
      rw [updR_ne (by rintro ⟨_, _, _, rfl⟩; omega)]
      exact hver _ _ _ _ (by omega)
    · cases q
      refine main _ hadv.ext (upd_ne (Ne.symm hbb)) (fun b2 i j ver hij q => upd_ne ?_) (fun i j ver hij q => ?_) rfl ⟨_, cap, rfl, h1, h2, .inr ⟨b, o, Cs, ty, updR_self _ _ _ _ _ _, rfl, upd_self _ _ _, ?_, k7, k8, k9, fun q x hx => (k10 q x hx).mono hadv.ext.imm⟩⟩
      · rintro rfl
        exact k5 i j ver hij q
      · show updR G.rl id k off n (some (b, o)) id i j ver = none
        rw [updR_ne (fun e => hij ⟨e.2.1, e.2.2.1⟩)]
        exact q
      · rw [Below.heap_setCell w _ _ b hbb]
        exact k6
def rowOf (m : List (Option Ob)) (id k off : Nat) (x : V) (y : D) : Option (List (List C) × List (Option Ob)) :=
  match x with
  | .sl id0 s so len _ => match obGet m id0 with
    | some (.arr s' es') => if id0 ≠ id ∧ s = 1 ∧ s' = 1 ∧ so + len ≤ es'.length then some ((es'.drop so).take len, m.set id0 none) else none
    | _ => none
  | .rw id0 i j ver so len => match y with
    | .ow r ver' => if id0 = id ∧ i = k ∧ j = off ∧ ver = ver' ∧ so + len ≤ r.length then some (((r.drop so).take len).map fun x => [x], m) else none
    | _ => none
  | _ => none
theorem stRow_sound (hT : TOk P T) (hok : Ok G w m) {t : TypeId} {ti : TI} (ht : look T t = some ti) (hn : ti.n = 1) {id k off s : Nat} {es : List (List D)} {row : List D} {y : D} (hm : m[id]? = some (some (.arw s es))) (hrow : es[k]? = some row) (hy : row[off]? = some y) {x : V} {av v : Value} (ha : VR G w (.ptr id k off) av) (hx : VR G w x v)
    {r : List C} {m1 : List (Option Ob)} (he : rowOf m id k off x y = some (r.map (fun x => [x]), m1)) :
    ∃ ver w' G', (Instr.storeAt t av v).run P w = .ok () w' ∧ Ok G' w' (m1.set id (some (.arw s (es.set k (row.set off (.ow r ver)))))) ∧ Adv G w G' w' ∧ ∀ j, G'.loc j = G.loc j := by
  have key : ∃ ao cap, v = .slice ao r.length cap ∧ r.length ≤ cap ∧ cap ≤ maxLen ∧ Ok G w m1 ∧ m1[id]? = some (some (.arw s es)) ∧ (cap = 0 ∨ ∃ b o Cs ty, ao = some ⟨b, o, none⟩ ∧ G.kd b ≠ .no ∧ G.kd b ≠ .imm ∧ (∀ id2, id2 ≠ id → live m1 id2 → ¬ Own G id2 b) ∧ G.kd b ≠ .ob id ∧ (∀ i j ver, ¬ (i = k ∧ j = off) → G.kd b ≠ .rw id i j ver) ∧ w.heap[b]? = some (.cells Cs ty (0, 0)) ∧ G.sz b = Cs.size ∧ o + cap ≤ Cs.size ∧ (∀ v ∈ Cs, v.oneCell' = true) ∧ ∀ q x, r[q]? = some x → CR G.kd w x (Cs.getD (o + q) undef)) := by
    unfold rowOf at he
    split at he
    · rename_i id0 s0 so len cl
      split at he
      · rename_i s' es' hg
        split at he
        · rename_i hcond
          obtain ⟨q0, rfl, rfl, q3⟩ := hcond
          simp only [Option.some.injEq, Prod.mk.injEq] at he
          obtain ⟨he, rfl⟩ := he
          have hrl : r.length = len := by
            have := congrArg List.length he
            simp at this
            omega
          have hget : ∀ (q : Nat) x, r[q]? = some x → es'[so + q]? = some [x] := fun q x hx => by
            have : (r.map fun x => [x])[q]? = some [x] := by rw [List.getElem?_map, hx]; rfl
            rw [← he, List.getElem?_take] at this
            split at this
            · rw [List.getElem?_drop] at this; exact this
            · cases this
          have hm0 := obGet_some hg
          cases hx with
          | @sl _ _ _ _ cap _ ao p1 p2 p3 p4 =>
            refine ⟨ao, cap, by rw [hrl], by omega, p3, hok.kill id0, ?_, ?_⟩
            · rw [List.getElem?_set, if_neg q0]; exact hm
            · rcases Nat.eq_zero_or_pos cap with h0 | h0
              · exact .inl h0
              · obtain ⟨b, o, a1, a2, a3, a4⟩ := p4 h0
                obtain ⟨_, hr0, q⟩ := hok.ob id0 _ hm0
                rcases q with ⟨q, _⟩ | ⟨b', o', hb⟩
                · rw [a1] at q; cases q
                have e := hb.loc
                rw [a1] at e
                cases e
                have hkd := hb.kd
                have hb' := hb
                obtain ⟨_, _, Cs, ty, d3, d4, d5, d6, d7⟩ := hb'
                refine .inr ⟨b, o + so, Cs, ty, by simpa using a3, hb.own.1, hb.own.2, fun id2 h2 hl2 hown => ?_, (by rw [hkd]; intro e; cases e; exact q0 rfl), (fun i j ver _ => by rw [hkd]; intro e; cases e), d3, d4, by omega, d6, fun q x hx => ?_⟩
                · rcases hown with e | ⟨_, _, _, e⟩ <;> rw [hkd] at e <;> cases e
                  exact live_kill hl2
                · have h1 := hget q x hx
                  have := d7 (so + q) (by have := (List.getElem?_eq_some_iff.1 h1).1; omega) (so + q) [x] 0 x (by omega) h1 rfl
                  rw [Nat.add_assoc]
                  exact this
        · cases he
      · cases he
    · rename_i id0 i j ver so len
      split at he
      · rename_i r0 ver'
        split at he
        · rename_i hcond
          obtain ⟨rfl, rfl, rfl, rfl, q3⟩ := hcond
          simp only [Option.some.injEq, Prod.mk.injEq] at he
          obtain ⟨he, rfl⟩ := he
          have hrl : r.length = len := by
            have := congrArg List.length he
            simp at this
            omega
          have hget : ∀ (q : Nat) x, r[q]? = some x → r0[so + q]? = some x := fun q x hx => by
            have : (r.map fun x => [x])[q]? = some [x] := by rw [List.getElem?_map, hx]; rfl
            rw [← he, List.getElem?_map, List.getElem?_take] at this
            split at this
            · rw [List.getElem?_drop] at this
              cases hq : r0[so + q]? with
              | none => rw [hq] at this; cases this
              | some z => rw [hq] at this; cases this; rfl
            · cases this
          cases hx with
          | @rw _ _ _ _ _ _ cap ao p1 p3 p4 =>
            refine ⟨ao, cap, by rw [hrl], by omega, p3, hok, hm, ?_⟩
            rcases Nat.eq_zero_or_pos cap with h0 | h0
            · exact .inl h0
            · obtain ⟨b, o, a1, a3, a4⟩ := p4 h0
              obtain ⟨_, hr0, q⟩ := hok.ob id0 _ hm
              rcases q with ⟨_, q⟩ | ⟨b', o', hb⟩
              · rw [q] at hrow; cases hrow
              have hj : j < s := by rw [← hr0 row (List.mem_of_getElem? hrow)]; exact (List.getElem?_eq_some_iff.1 hy).1
              obtain ⟨u0, c1, c2, c3, c4⟩ := hb.cell (j := i * s + j) (idx_lt hj (List.getElem?_eq_some_iff.1 hrow).1)
              obtain ⟨ao', cap', rfl, z1, z2, z3⟩ := c3 _ _ _ _ rfl hrow hy
              rcases z3 with ⟨_, z3⟩ | ⟨b2, o2, Cs, ty, d1, d2, d3, d4, d5, d6, d7, d8⟩
              · rw [a1] at z3; cases z3
              rw [a1] at d1
              cases d1
              refine .inr ⟨b, o + so, Cs, ty, a3, by rw [d3]; simp, by rw [d3]; simp, fun id2 h2 hl2 hown => ?_, by rw [d3]; simp, (fun i' j' ver' hij => by rw [d3]; intro e; cases e; exact hij ⟨rfl, rfl⟩), d4, d5, by omega, d7, fun q x hx => ?_⟩
              · rcases hown with e | ⟨_, _, _, e⟩ <;> rw [d3] at e <;> cases e
                exact h2 rfl
              · rw [Nat.add_assoc]
                exact d8 _ _ (hget q x hx)
        · cases he
      · cases he
    · cases he
  obtain ⟨ao, cap, rfl, h1, h2, hok1, hm1, h3⟩ := key
  obtain ⟨b0, o0, hl, ⟨u, hc⟩, hfz, ver, G', q1, q2, q3⟩ := setrow_sound hok1 hm1 hrow hy h1 h2 h3
  refine ⟨ver, _, G', ?_, q1, q2, q3⟩
  cases ha with
  | ptr h =>
    rw [hl] at h
    cases h
    have hi := (hT _ _ ht).size w
    have hs : (storeCells ⟨b0, o0 + k * G.wd id + off, none⟩ [.slice ao r.length cap] 0).run P w = .ok () (w.setCell ⟨b0, o0 + k * G.wd id + off, none⟩ (.slice ao r.length cap)) := by
      simp only [storeCells, Sem.run_bind, add_mk, Nat.add_zero, run_store P w _ (.slice ao r.length cap) _ rfl, hc, hfz]
      rfl
    simp [Instr.storeAt, Instr.sureAddr, storeVar, hi, hn, Value.cells]
    exact hs
end
end Go.Proofs.YtogfcpaalcebdaaE
/- An engine for walks: names turned; a call. -/
namespace Go.Proofs.YtogfcpaalcebdaaE
open Go Go.RowKit
set_option linter.unusedVariables false
set_option linter.unusedSimpArgs false

mutual
def ren (ρ : Nat → Option Nat) : V → Option V
  | .any => some .any
  | .c x => some (.c x)
  | .nl => some .nl
  | .ic es => some (.ic es)
  | .at cs => some (.at cs)
  | .ptr id k off => (ρ id).map fun i => .ptr i k off
  | .sl id s off len cl => (ρ id).map fun i => .sl i s off len cl
  | .rw id i j ver off len => (ρ id).map fun q => .rw q i j ver off len
  | .rp id i j ver k => (ρ id).map fun q => .rp q i j ver k
  | .agg cs => (renL ρ cs).map .agg
  | .tup cs => (renL ρ cs).map .tup
  | .fn f cs => (renL ρ cs).map (.fn f)
  | .mp id => (ρ id).map .mp
  | .bb => some .bb
def renL (ρ : Nat → Option Nat) : List V → Option (List V)
  | [] => some []
  | x :: r => match ren ρ x with
    | some y => match renL ρ r with
      | some l => some (y :: l)
      | none => none
    | none => none
end
def renOb (ρ : Nat → Option Nat) : Ob → Option Ob
  | .box cs => (renL ρ cs).map .box
  | .arr s es => some (.arr s es)
  | .arw s es => some (.arw s es)
  | .mp l => some (.mp l)
  | .abs P => some (.abs P)
theorem renL_get {ρ : Nat → Option Nat} : ∀ {xs ys : List V}, renL ρ xs = some ys → ys.length = xs.length ∧ ∀ (j : Nat) y, ys[j]? = some y → ∃ x, xs[j]? = some x ∧ ren ρ x = some y
  | [], ys, h => by simp only [renL, Option.some.injEq] at h; subst h; exact ⟨rfl, fun j y q => by simp at q⟩
  | x :: r, ys, h => by
    simp only [renL] at h
    split at h
    · rename_i y hy
      split at h
      · rename_i l hl
        cases h
        obtain ⟨h1, h2⟩ := renL_get hl
        refine ⟨by simp [h1], fun j z hz => ?_⟩
        cases j with
        | zero => cases hz; exact ⟨x, rfl, hy⟩
        | succ j => exact h2 j z (by simpa using hz)
      · cases h
    · cases h
structure Ren (ρ : Nat → Option Nat) (G G' : Gh) : Prop where
  loc : ∀ id id', ρ id = some id' → G'.loc id' = G.loc id ∧ G'.wd id' = G.wd id ∧ G'.rl id' = G.rl id
  ob : ∀ id id' b, ρ id = some id' → G.kd b = .ob id → G'.kd b = .ob id'
  rw : ∀ id id' b i j v, ρ id = some id' → G.kd b = .rw id i j v → G'.kd b = .rw id' i j v
  imm : ∀ b, G.kd b = .imm → G'.kd b = .imm
  sz : G'.sz = G.sz
section
variable {P : Program} {T : Tab} {G G' : Gh} {w w' : World} {m m' : List (Option Ob)} {ρ : Nat → Option Nat}
theorem Ren.cr (h : Ren ρ G G') {x : C} {v : Value} (hx : CR G.kd w x v) : CR G'.kd w x v := hx.mono fun b q => ⟨h.imm b q, rfl⟩
theorem Ren.vr (h : Ren ρ G G') {x : V} {v : Value} (hx : VR G w x v) : ∀ {y : V}, ren ρ x = some y → VR G' w y v := by
  have map_some : ∀ {α : Type} {o : Option Nat} {f : Nat → α} {y : α}, o.map f = some y → ∃ i, o = some i ∧ f i = y := fun h => by
    rename_i α o f y
    cases o with
    | none => cases h
    | some i => cases h; exact ⟨i, rfl, rfl⟩
  have mapL : ∀ {o : Option (List V)} {f : List V → V} {y : V}, o.map f = some y → ∃ i, o = some i ∧ f i = y := fun h => by
    rename_i o f y
    cases o with
    | none => cases h
    | some i => cases h; exact ⟨i, rfl, rfl⟩
  induction hx with
  | any => intro y e; simp only [ren, Option.some.injEq] at e; subst e; exact .any
  | c hc => intro y e; simp only [ren, Option.some.injEq] at e; subst e; exact .c (h.cr hc)
  | nl => intro y e; simp only [ren, Option.some.injEq] at e; subst e; exact .nl
  | bb => intro y e; simp only [ren, Option.some.injEq] at e; subst e; exact .bb
  | ic hc => intro y e; simp only [ren, Option.some.injEq] at e; subst e; exact .ic (h.cr hc)
  | @ptr id k off b o hl =>
    intro y e
    simp only [ren] at e
    obtain ⟨i, h1, rfl⟩ := map_some e
    obtain ⟨a1, a2, _⟩ := h.loc _ _ h1
    rw [← a2]
    exact .ptr (a1.trans hl)
  | «at» f hk hc => intro y e; simp only [ren, Option.some.injEq] at e; subst e; exact .at f (h.imm _ hk) fun j x hj => ⟨(hc j x hj).1, h.cr (hc j x hj).2⟩
  | sl hl hcl hm hh =>
    intro y e
    simp only [ren] at e
    obtain ⟨i, h1, rfl⟩ := map_some e
    obtain ⟨a1, a2, _⟩ := h.loc _ _ h1
    refine .sl hl hcl hm fun h0 => ?_
    obtain ⟨b, o, c1, c2, c3, c4⟩ := hh h0
    exact ⟨b, o, a1.trans c1, a2.trans c2, c3, by rw [h.sz]; exact c4⟩
  | rw hl hm hh =>
    intro y e
    simp only [ren] at e
    obtain ⟨i, h1, rfl⟩ := map_some e
    obtain ⟨_, _, a3⟩ := h.loc _ _ h1
    refine .rw hl hm fun h0 => ?_
    obtain ⟨b, o, c1, c3, c4⟩ := hh h0
    exact ⟨b, o, by rw [a3]; exact c1, c3, by rw [h.sz]; exact c4⟩
  | rp hl =>
    intro y e
    simp only [ren] at e
    obtain ⟨i, h1, rfl⟩ := map_some e
    obtain ⟨_, _, a3⟩ := h.loc _ _ h1
    exact .rp (by rw [a3]; exact hl)
  | agg hl h1 hh ih =>
    intro y e
    simp only [ren] at e
    obtain ⟨ys, e1, rfl⟩ := mapL e
    obtain ⟨b1, b2⟩ := renL_get e1
    refine .agg (b1.trans hl) h1 fun j z hz => ?_
    obtain ⟨x, c1, c2⟩ := b2 j z hz
    exact ih j x c1 c2
  | tup hl hh ih =>
    intro y e
    simp only [ren] at e
    obtain ⟨ys, e1, rfl⟩ := mapL e
    obtain ⟨b1, b2⟩ := renL_get e1
    refine .tup (b1.trans hl) fun j z hz => ?_
    obtain ⟨x, c1, c2⟩ := b2 j z hz
    exact ih j x c1 c2
  | fn hl hh ih =>
    intro y e
    simp only [ren] at e
    obtain ⟨ys, e1, rfl⟩ := mapL e
    obtain ⟨b1, b2⟩ := renL_get e1
    refine .fn (b1.trans hl) fun j z hz => ?_
    obtain ⟨x, c1, c2⟩ := b2 j z hz
    exact ih j x c1 c2
  | mp hl =>
    intro y e
    simp only [ren] at e
    obtain ⟨i, h1, rfl⟩ := map_some e
    obtain ⟨a1, _, _⟩ := h.loc _ _ h1
    exact .mp (by rw [a1]; exact hl)
theorem Ren.blk (h : Ren ρ G G') {id id' b o n : Nat} {R R' : Nat → Value → Prop} (e : ρ id = some id') (hb : Blk G w id b o n R) (hR : ∀ j v, R j v → R' j v) : Blk G' w id' b o n R' := by
  obtain ⟨h1, h2, Cs, ty, h3, h4, h5, h6, h7⟩ := hb
  exact ⟨(h.loc _ _ e).1.trans h1, h.ob _ _ _ e h2, Cs, ty, h3, by rw [h.sz]; exact h4, h5, h6, fun j hj => hR _ _ (h7 j hj)⟩
theorem Ren.dr (h : Ren ρ G G') {id id' i j : Nat} {x : D} {v : Value} (e : ρ id = some id') (hx : DR G w id i j x v) : DR G' w id' i j x v := by
  cases x with
  | p x => exact h.cr hx
  | no => exact hx
  | ow r ver =>
    obtain ⟨ao, cap, rfl, h1, h2, h3⟩ := hx
    refine ⟨ao, cap, rfl, h1, h2, ?_⟩
    rw [(h.loc _ _ e).2.2]
    rcases h3 with h3 | ⟨b, o, Cs, ty, a1, a2, a3, a4, a5, a6, a7, a8⟩
    · exact .inl h3
    · exact .inr ⟨b, o, Cs, ty, a1, a2, h.rw _ _ _ _ _ _ e a3, a4, by rw [h.sz]; exact a5, a6, a7, fun k x hx => h.cr (a8 k x hx)⟩
theorem Ren.or (h : Ren ρ G G') {id id' : Nat} {ob ob' : Ob} (e : ρ id = some id') (he : renOb ρ ob = some ob') (ho : OR G w id ob) : OR G' w id' ob' := by
  cases ob with
  | box cs =>
    simp only [renOb] at he
    cases hq : renL ρ cs with
    | none => rw [hq] at he; cases he
    | some ys =>
      rw [hq] at he
      cases he
      obtain ⟨b1, b2⟩ := renL_get hq
      obtain ⟨b, hb⟩ := ho
      refine ⟨b, ?_⟩
      rw [b1]
      refine h.blk e hb fun j v hv y hy => ?_
      obtain ⟨x, c1, c2⟩ := b2 j y hy
      exact h.vr (hv x c1) c2
  | arr s es =>
    cases he
    obtain ⟨h1, h2, h3⟩ := ho
    refine ⟨(h.loc _ _ e).2.1.trans h1, h2, ?_⟩
    rcases h3 with ⟨h3, h4⟩ | ⟨b, o, hb⟩
    · exact .inl ⟨(h.loc _ _ e).1.trans h3, h4⟩
    · exact .inr ⟨b, o, h.blk e hb fun n v hv i row j x e1 e2 e3 => h.cr (hv i row j x e1 e2 e3)⟩
  | arw s es =>
    cases he
    obtain ⟨h1, h2, h3⟩ := ho
    refine ⟨(h.loc _ _ e).2.1.trans h1, h2, ?_⟩
    rcases h3 with ⟨h3, h4⟩ | ⟨b, o, hb⟩
    · exact .inl ⟨(h.loc _ _ e).1.trans h3, h4⟩
    · exact .inr ⟨b, o, h.blk e hb fun n v hv i row j x e1 e2 e3 => h.dr e (hv i row j x e1 e2 e3)⟩
  | mp l =>
    cases he
    obtain ⟨b, h1, h2, h3⟩ := ho
    exact ⟨b, (h.loc _ _ e).1.trans h1, h.ob _ _ _ e h2, h3⟩
  | abs P =>
    cases he
    obtain ⟨b, own, h1, h2, h3⟩ := ho
    refine ⟨b, own, (h.loc _ _ e).1.trans h1, fun c hc => h.ob _ _ _ e (h2 c hc), fun imm sz w2 i1 i2 i3 i4 => h3 imm sz w2 (fun c hc => i1 c (h.imm c hc)) (fun c hc => (i2 c hc).trans (by rw [h.sz])) (fun c hc => ?_) i4⟩
    rcases hc with hc | hc
    · exact i3 c (.inl hc)
    · exact i3 c (.inr (h.imm c hc))

/-! ### a call -/
def posOf (x : Nat) : List Nat → Option Nat
  | [] => none
  | y :: r => bif Nat.beq x y then some 0 else (posOf x r).map (· + 1)
theorem posOf_some : ∀ {l : List Nat} {x p : Nat}, posOf x l = some p → l[p]? = some x
  | [], x, p, h => by cases h
  | y :: r, x, p, h => by
    unfold posOf at h
    cases hb : Nat.beq x y with
    | true => rw [hb] at h; cases h; rw [Nat.eq_of_beq_eq_true hb]; rfl
    | false =>
      rw [hb] at h
      simp only [cond_false] at h
      cases hq : posOf x r with
      | none => rw [hq] at h; cases h
      | some q =>
        rw [hq] at h
        cases h
        have := posOf_some hq
        simpa using this
theorem posOf_nodup : ∀ {l : List Nat} {x p : Nat}, l.Nodup → l[p]? = some x → posOf x l = some p
  | [], x, p, _, h => by simp at h
  | y :: r, x, p, hn, h => by
    rw [List.nodup_cons] at hn
    unfold posOf
    cases p with
    | zero => cases h; rw [show Nat.beq y y = true from by simp]; rfl
    | succ p =>
      have hx : r[p]? = some x := by simpa using h
      have hne : Nat.beq x y = false := by
        cases hb : Nat.beq x y with
        | false => rfl
        | true => rw [Nat.eq_of_beq_eq_true hb] at hx; exact absurd (List.mem_of_getElem? hx) hn.1
      rw [hne, posOf_nodup hn.2 hx]
      rfl
theorem posOf_none {l : List Nat} {x : Nat} (h : posOf x l = none) : x ∉ l := by
  intro hm
  induction l with
  | nil => cases hm
  | cons y r ih =>
    unfold posOf at h
    cases hb : Nat.beq x y with
    | true => rw [hb] at h; cases h
    | false =>
      rw [hb] at h
      simp only [cond_false] at h
      rcases List.mem_cons.1 hm with rfl | hm
      · have : Nat.beq x x = true := by simp
        rw [this] at hb; cases hb
      · cases hq : posOf x r with
        | none => exact ih hq hm
        | some q => rw [hq] at h; cases h
def footM (m : List (Option Ob)) (ρ : Nat → Option Nat) : List Nat → Option (List (Option Ob))
  | [] => some []
  | id :: r => match obGet m id with
    | some o => match renOb ρ o with
      | some o' => match footM m ρ r with
        | some l => some (some o' :: l)
        | none => none
      | none => none
    | none => none
theorem footM_get {ρ : Nat → Option Nat} : ∀ {L : List Nat} {mc : List (Option Ob)}, footM m ρ L = some mc → mc.length = L.length ∧ ∀ (j : Nat) id, L[j]? = some id → ∃ o o', m[id]? = some (some o) ∧ renOb ρ o = some o' ∧ mc[j]? = some (some o')
  | [], mc, h => by cases h; exact ⟨rfl, fun j id q => by simp at q⟩
  | i :: r, mc, h => by
    unfold footM at h
    split at h
    · rename_i o ho
      split at h
      · rename_i o' ho'
        split at h
        · rename_i l hl
          cases h
          obtain ⟨h1, h2⟩ := footM_get hl
          refine ⟨by simp [h1], fun j id hj => ?_⟩
          cases j with
          | zero => cases hj; exact ⟨o, o', obGet_some ho, ho', rfl⟩
          | succ j => exact h2 j id (by simpa using hj)
        · cases h
      · cases h
    · cases h
def callG (G : Gh) (L : List Nat) : Gh :=
  { loc := fun j => match L[j]? with
      | some id => G.loc id
      | none => none
    wd := fun j => match L[j]? with
      | some id => G.wd id
      | none => 0
    rl := fun j => match L[j]? with
      | some id => G.rl id
      | none => fun _ _ _ => none
    kd := fun b => match G.kd b with
      | .ob id => match posOf id L with
        | some j => .ob j
        | none => .no
      | .rw id i k v => match posOf id L with
        | some j => .rw j i k v
        | none => .no
      | k => k
    sz := G.sz }
theorem call_ren (G : Gh) (L : List Nat) : Ren (fun id => posOf id L) G (callG G L) := by
  refine ⟨fun id id' e => ?_, fun id id' b e q => ?_, fun id id' b i j v e q => ?_, fun b q => ?_, rfl⟩
  · have := posOf_some e
    simp only [callG, this]
    exact ⟨trivial, trivial, trivial⟩
  · simp only [callG, q, e]
  · simp only [callG, q, e]
  · simp only [callG, q]
theorem call_ok (hok : Ok G w m) {L : List Nat} (hL : L.Nodup) {mc : List (Option Ob)} (hf : footM m (fun id => posOf id L) L = some mc) : Ok (callG G L) w mc := by
  obtain ⟨h1, h2⟩ := footM_get hf
  refine ⟨fun j o hj => ?_, fun b q => ?_, fun j hj => ?_, fun b hb => ?_, fun j b o q => ?_, fun j i k v b o q => ?_, ?_, fun j hj i k v => ?_⟩
  · have hlt : j < L.length := by rw [← h1]; exact (List.getElem?_eq_some_iff.1 hj).1
    have hLj := List.getElem?_eq_getElem hlt
    obtain ⟨o0, o', a1, a2, a3⟩ := h2 j _ hLj
    rw [hj] at a3
    cases a3
    exact (call_ren G L).or (posOf_nodup hL hLj) a2 (hok.ob _ _ a1)
  · refine hok.imm b ?_
    simp only [callG] at q
    split at q
    · split at q <;> cases q
    · split at q <;> cases q
    · exact q
  · have : L[j]? = none := List.getElem?_eq_none (by omega)
    simp only [callG, this]
  · simp only [callG, hok.new b hb]
  · simp only [callG] at q
    split at q
    · exact hok.lt _ _ _ q
    · cases q
  · cases hL2 : L[j]? with
    | none => simp only [callG, hL2] at q; cases q
    | some id => simp only [callG, hL2] at q; exact hok.rlt _ _ _ _ _ _ q
  · obtain ⟨n, hn⟩ := hok.ver
    refine ⟨n, fun j i k v hv => ?_⟩
    cases hL2 : L[j]? with
    | none => simp only [callG, hL2]
    | some id => simp only [callG, hL2]; exact hn _ _ _ _ hv
  · cases hL2 : L[j]? with
    | none => simp only [callG, hL2]
    | some id => simp only [callG, hL2] at hj ⊢; exact hok.frl _ hj _ _ _
end
end Go.Proofs.YtogfcpaalcebdaaE
/- An engine for walks: a call, and what it leaves. -/
namespace Go.Proofs.YtogfcpaalcebdaaE
open Go Go.RowKit
set_option linter.unusedVariables false
set_option linter.unusedSimpArgs false
def newIds (L mv : List Nat) (n : Nat) : List Nat := mv ++ List.range' L.length (n - L.length)
def back (L E : List Nat) (N : Nat) (j : Nat) : Option Nat :=
  match posOf j E with
  | some p => some (N + p)
  | none => L[j]?
def renO (β : Nat → Option Nat) : Option Ob → Option (Option Ob)
  | none => some none
  | some o => match renOb β o with
    | some o' => some (some o')
    | none => none
def backA (β : Nat → Option Nat) (L mv : List Nat) (mc : List (Option Ob)) : Nat → List (Option Ob) → Option (List (Option Ob))
  | _, [] => some []
  | id, o :: r => match (match posOf id L with
      | none => some o
      | some j => match posOf j mv with
        | some _ => some none
        | none => renO β (mc.getD j none)) with
    | some o' => match backA β L mv mc (id + 1) r with
      | some l => some (o' :: l)
      | none => none
    | none => none
def backE (β : Nat → Option Nat) (mc : List (Option Ob)) : List Nat → Option (List (Option Ob))
  | [] => some []
  | j :: r => match renO β (mc.getD j none) with
    | some o' => match backE β mc r with
      | some l => some (o' :: l)
      | none => none
    | none => none
def backM (L mv : List Nat) (m mc : List (Option Ob)) : Option (List (Option Ob)) :=
  match backA (back L (newIds L mv mc.length) m.length) L mv mc 0 m with
  | some a => match backE (back L (newIds L mv mc.length) m.length) mc (newIds L mv mc.length) with
    | some e => some (a ++ e)
    | none => none
  | none => none
structure Fin (G : Gh) (w : World) (m : List (Option Ob)) (G' : Gh) (w' : World) (m' : List (Option Ob)) (mv : List Nat) : Prop where
  ok : Ok G' w' m'
  tr : Tr G w G' w'
  len : m.length ≤ m'.length
  kept : ∀ j, j < m.length → j ∉ mv → G'.loc j = G.loc j ∧ (∀ b o, G.loc j = some (b, o) → G'.wd j = G.wd j) ∧ ∀ i k v b o, G.rl j i k v = some (b, o) → G'.rl j i k v = some (b, o)
def VRL (G : Gh) (w : World) (xs : List V) (vs : Array Value) : Prop := xs.length = vs.size ∧ ∀ (j : Nat) x, xs[j]? = some x → VR G w x (vs.getD j undef)
abbrev Spec := FuncId → List V → List (Option Ob) → (V → List (Option Ob) → List Nat → Prop) → Prop
def SpecOk (P : Program) (S : Spec) : Prop := ∀ f args m Post, S f args m Post → ∀ (G : Gh) (w : World) (vs : Array Value), Ok G w m → VRL G w args vs →
  Calls P f vs w fun e w' => ∃ v G' r m' mv, e = .returned v ∧ Post r m' mv ∧ Fin G w m G' w' m' mv ∧ VR G' w' r v
section
variable {P : Program} {T : Tab} {G G' : Gh} {w w' : World} {m m' mc : List (Option Ob)} {β : Nat → Option Nat}
theorem renO_some {β : Nat → Option Nat} {x : Option Ob} {o : Ob} (h : renO β x = some (some o)) : ∃ o0, x = some o0 ∧ renOb β o0 = some o := by
  cases x with
  | none => simp [renO] at h
  | some o0 =>
    unfold renO at h
    cases hq : renOb β o0 with
    | none => simp only [hq] at h; cases h
    | some o' => simp only [hq] at h; cases h; exact ⟨o0, rfl, hq⟩
theorem backA_get {L mv : List Nat} : ∀ (m a : List (Option Ob)) (id0 : Nat), backA β L mv mc id0 m = some a → a.length = m.length ∧ ∀ (id : Nat) o, a[id]? = some (some o) →
    (posOf (id0 + id) L = none ∧ m[id]? = some (some o)) ∨ ∃ j o0, posOf (id0 + id) L = some j ∧ posOf j mv = none ∧ mc[j]? = some (some o0) ∧ renOb β o0 = some o
  | [], a, id0, h => by cases h; exact ⟨rfl, fun id o q => by simp at q⟩
  | x :: r, a, id0, h => by
    unfold backA at h
    split at h
    · rename_i o' ho'
      split at h
      · rename_i l hl
        cases h
        obtain ⟨h1, h2⟩ := backA_get r l (id0 + 1) hl
        refine ⟨by simp [h1], fun id o q => ?_⟩
        cases id with
        | succ id =>
          have := h2 id o (by simpa using q)
          rw [show id0 + 1 + id = id0 + (id + 1) by omega] at this
          simpa using this
        | zero =>
          cases q
          rw [Nat.add_zero]
          split at ho'
          · rename_i hp
            cases ho'
            exact .inl ⟨hp, rfl⟩
          · rename_i j hp
            split at ho'
            · cases ho'
            · rename_i hmv
              obtain ⟨o0, e1, e2⟩ := renO_some ho'
              refine .inr ⟨j, o0, hp, hmv, ?_, e2⟩
              rw [List.getD_eq_getElem?_getD] at e1
              cases hq : mc[j]? with
              | none => rw [hq] at e1; cases e1
              | some z => rw [hq] at e1; cases e1; rfl
      · cases h
    · cases h
theorem backE_get : ∀ (E : List Nat) (l : List (Option Ob)), backE β mc E = some l → l.length = E.length ∧ ∀ (p : Nat) o, l[p]? = some (some o) → ∃ j o0, E[p]? = some j ∧ mc[j]? = some (some o0) ∧ renOb β o0 = some o
  | [], l, h => by cases h; exact ⟨rfl, fun p o q => by simp at q⟩
  | j :: r, l, h => by
    unfold backE at h
    split at h
    · rename_i o' ho'
      split at h
      · rename_i l' hl
        cases h
        obtain ⟨h1, h2⟩ := backE_get r l' hl
        refine ⟨by simp [h1], fun p o q => ?_⟩
        cases p with
        | succ p => simpa using h2 p o (by simpa using q)
        | zero =>
          cases q
          obtain ⟨o0, e1, e2⟩ := renO_some ho'
          refine ⟨j, o0, rfl, ?_, e2⟩
          rw [List.getD_eq_getElem?_getD] at e1
          cases hq : mc[j]? with
          | none => rw [hq] at e1; cases e1
          | some z => rw [hq] at e1; cases e1; rfl
      · cases h
    · cases h
def outG (G G' : Gh) (L mv E : List Nat) (N : Nat) : Gh :=
  { loc := fun id => if id < N then G.loc id else match E[id - N]? with
      | some j => G'.loc j
      | none => none
    wd := fun id => if id < N then (match posOf id L with
        | none => G.wd id
        | some j => match posOf j mv with
          | none => G'.wd j
          | some _ => G.wd id) else match E[id - N]? with
      | some j => G'.wd j
      | none => 0
    rl := fun id => if id < N then (match posOf id L with
        | none => G.rl id
        | some j => match posOf j mv with
          | none => G'.rl j
          | some _ => G.rl id) else match E[id - N]? with
      | some j => G'.rl j
      | none => fun _ _ _ => none
    kd := fun b => match G'.kd b with
      | .ob j => match back L E N j with
        | some id => .ob id
        | none => .no
      | .rw j i k v => match back L E N j with
        | some id => .rw id i k v
        | none => .no
      | .imm => .imm
      | .no => match G.kd b with
        | .ob id => match posOf id L with
          | none => .ob id
          | some _ => .no
        | .rw id i k v => match posOf id L with
          | none => .rw id i k v
          | some _ => .no
        | k => k
    sz := G'.sz }
theorem newIds_mem {L mv : List Nat} {n j : Nat} (h : j ∈ newIds L mv n) : j ∈ mv ∨ L.length ≤ j := by
  unfold newIds at h
  rcases List.mem_append.1 h with h | h
  · exact .inl h
  · rw [List.mem_range'] at h
    obtain ⟨i, _, rfl⟩ := h
    exact .inr (by omega)
theorem newIds_nodup {L mv : List Nat} {n : Nat} (h1 : mv.Nodup) (h2 : ∀ j ∈ mv, j < L.length) : (newIds L mv n).Nodup := by
  unfold newIds
  rw [List.nodup_append]
  refine ⟨h1, List.nodup_range', fun a ha b hb e => ?_⟩
  subst e
  have := h2 a ha
  rw [List.mem_range'] at hb
  obtain ⟨i, _, rfl⟩ := hb
  omega
theorem call_out (hok : Ok G w m) {L mv : List Nat} (hL : L.Nodup) (hLm : ∀ id ∈ L, id < m.length) (hlen : mc.length = L.length) {G' : Gh} {w' : World} {mc' : List (Option Ob)} (hf : Fin (callG G L) w mc G' w' mc' mv) (hmv : mv.Nodup) (hmv2 : ∀ j ∈ mv, j < L.length)
    {m2 : List (Option Ob)} (hb : backM L mv m mc' = some m2) :
    Ok (outG G G' L mv (newIds L mv mc'.length) m.length) w' m2 ∧ Adv G w (outG G G' L mv (newIds L mv mc'.length) m.length) w' ∧ Ren (back L (newIds L mv mc'.length) m.length) G' (outG G G' L mv (newIds L mv mc'.length) m.length) ∧ (∀ j, j < m.length → (outG G G' L mv (newIds L mv mc'.length) m.length).loc j = G.loc j) := by
  have hEn := newIds_nodup (n := mc'.length) hmv hmv2
  have hEm : ∀ j, j ∈ newIds L mv mc'.length → j ∈ mv ∨ L.length ≤ j := fun j h => newIds_mem h
  have hEmv : ∀ j, j ∈ mv → j ∈ newIds L mv mc'.length := fun j h => List.mem_append_left _ h
  unfold backM at hb
  generalize newIds L mv mc'.length = E at *
  have hkept : ∀ j id, L[j]? = some id → j ∉ mv → G'.loc j = G.loc id ∧ (∀ b o, G.loc id = some (b, o) → G'.wd j = G.wd id) ∧ ∀ i k v b o, G.rl id i k v = some (b, o) → G'.rl j i k v = some (b, o) := fun j id hj hn => by
    have hlt : j < mc.length := by rw [hlen]; exact (List.getElem?_eq_some_iff.1 hj).1
    obtain ⟨a1, a2, a3⟩ := hf.kept j hlt hn
    simp only [callG, hj] at a1 a2 a3
    exact ⟨a1, a2, a3⟩
  have hcall : ∀ b, (G.kd b = .no ∨ G.kd b = .imm) → (callG G L).kd b = G.kd b := fun b q => by
    rcases q with q | q <;> simp only [callG, q]
  have hfree : ∀ b, b < w.heap.size → (∀ id, G.kd b = .ob id → posOf id L = none) → (∀ id i j v, G.kd b = .rw id i j v → posOf id L = none) → G.kd b ≠ .imm → (callG G L).kd b = .no := fun b hb q1 q2 q3 => by
    cases hk : G.kd b with
    | no => simp only [callG, hk]
    | imm => exact absurd hk q3
    | ob id => simp only [callG, hk, q1 id hk]
    | rw id i j v => simp only [callG, hk, q2 id i j v hk]
  have hren : Ren (back L E m.length) G' (outG G G' L mv E m.length) := by
    refine ⟨fun j id' e => ?_, fun j id' b e q => ?_, fun j id' b i k v e q => ?_, fun b q => ?_, rfl⟩
    · unfold back at e
      cases hp : posOf j E with
      | some p =>
        rw [hp] at e
        cases e
        have hE := posOf_some hp
        have hn : ¬ (m.length + p < m.length) := by omega
        simp only [outG, if_neg hn, Nat.add_sub_cancel_left, hE]
        exact ⟨trivial, trivial, trivial⟩
      | none =>
        rw [hp] at e
        have hnE := posOf_none hp
        have hnm : j ∉ mv := fun q => hnE (hEmv j q)
        have hid : id' < m.length := hLm id' (List.mem_of_getElem? e)
        obtain ⟨k1, k2, k3⟩ := hkept j id' e hnm
        have hpm : posOf j mv = none := by
          cases hq : posOf j mv with
          | none => rfl
          | some p => exact absurd (List.mem_of_getElem? (posOf_some hq)) hnm
        simp only [outG, if_pos hid, posOf_nodup hL e, hpm]
        exact ⟨k1.symm, trivial, trivial⟩
    · simp only [outG, q, e]
    · simp only [outG, q, e]
    · simp only [outG, q]
  have htr : Tr G w (outG G G' L mv E m.length) w' := by
    refine ⟨hf.tr.os, hf.tr.tape, hf.tr.output, hf.tr.size, fun b hb q => ?_, fun b hb => hf.tr.sz b hb⟩
    have hc := hcall b q
    obtain ⟨h1, h2⟩ := hf.tr.blk b hb (by rw [hc]; exact q)
    refine ⟨h1, ?_⟩
    rw [hc] at h2
    rcases q with q | q
    · rw [q] at h2; simp only [outG, h2, q]
    · rw [q] at h2; simp only [outG, h2, q]
  have hext : Ext G w (outG G G' L mv E m.length) w' := by
    refine ⟨fun id b o q => ?_, fun id i j v b o q => ?_, fun b q => ?_⟩
    · have hid : id < m.length := by
        rcases Nat.lt_or_ge id m.length with h | h
        · exact h
        · rw [hok.fresh id h] at q; cases q
      simp only [outG, if_pos hid]
      refine ⟨q, ?_, hf.tr.sz b (hok.lt id b o q)⟩
      cases hp : posOf id L with
      | none => rfl
      | some k =>
        dsimp only
        cases hpm : posOf k mv with
        | some p => rfl
        | none =>
          obtain ⟨_, k2, _⟩ := hkept k id (posOf_some hp) (posOf_none hpm)
          exact k2 b o q
    · have hid : id < m.length := by
        rcases Nat.lt_or_ge id m.length with h | h
        · exact h
        · rw [hok.frl id (hok.fresh id h)] at q; cases q
      simp only [outG, if_pos hid]
      refine ⟨?_, hf.tr.sz b (hok.rlt id i j v b o q)⟩
      cases hp : posOf id L with
      | none => exact q
      | some k =>
        dsimp only
        cases hpm : posOf k mv with
        | some p => exact q
        | none =>
          have hLk := posOf_some hp
          obtain ⟨_, _, k3⟩ := hkept k id hLk (posOf_none hpm)
          exact k3 _ _ _ _ _ q
    · obtain ⟨h1, h2⟩ := htr.blk b (hok.imm b q) (.inr q)
      exact ⟨h2.trans q, h1⟩
  refine ⟨?_, ⟨hext, htr⟩, hren, fun j hj => by simp only [outG, if_pos hj]⟩
  split at hb
  · rename_i a ha
    split at hb
    · rename_i e he
      cases hb
      obtain ⟨a1, a2⟩ := backA_get m a 0 ha
      obtain ⟨e1, e2⟩ := backE_get E e he
      obtain ⟨n1, hn1⟩ := hok.ver
      obtain ⟨n2, hn2⟩ := hf.ok.ver
      refine ⟨fun id o q => ?_, fun b q => ?_, fun id q => ?_, fun b q => ?_, fun id b o q => ?_, fun id i j v b o q => ?_, ⟨max n1 n2, fun id i j v hv => ?_⟩, fun id q i j v => ?_⟩
      · by_cases hid : id < m.length
        · rw [List.getElem?_append_left (by omega)] at q
          rcases a2 id o q with ⟨h1, h2⟩ | ⟨j, o0, h1, h2, h3, h4⟩
          · rw [Nat.zero_add] at h1
            refine (hok.ob id o h2).mono hext (fun b hown => ?_) (fun q => by simp only [outG, if_pos hid]; exact q) (by simp only [outG, if_pos hid, h1]) (fun i j v q => by simp only [outG, if_pos hid, h1]; exact q) ⟨htr.size, htr.sz⟩
            have hb : b < w.heap.size := by
              rcases Nat.lt_or_ge b w.heap.size with h | h
              · exact h
              · have := hok.new b h
                rcases hown with q | ⟨_, _, _, q⟩ <;> rw [this] at q <;> cases q
            have hc : (callG G L).kd b = .no := by
              rcases hown with q | ⟨_, _, _, q⟩ <;> simp only [callG, q, h1]
            obtain ⟨t1, t2⟩ := hf.tr.blk b hb (.inl hc)
            rw [hc] at t2
            refine ⟨?_, t1⟩
            rcases hown with q | ⟨_, _, _, q⟩ <;> simp only [outG, t2, q, h1]
          · rw [Nat.zero_add] at h1
            have hLj := posOf_some h1
            have hjl := (List.getElem?_eq_some_iff.1 hLj).1
            have hbj : back L E m.length j = some id := by
              unfold back
              cases hp : posOf j E with
              | none => exact hLj
              | some p =>
                rcases hEm j (List.mem_of_getElem? (posOf_some hp)) with h | h
                · exact absurd h (posOf_none h2)
                · omega
            exact hren.or hbj h4 (hf.ok.ob j o0 h3)
        · rw [List.getElem?_append_right (by omega), a1] at q
          obtain ⟨j, o0, h1, h3, h4⟩ := e2 _ o q
          have hbj : back L E m.length j = some id := by
            unfold back
            rw [posOf_nodup hEn h1]
            simp only [Option.some.injEq]
            omega
          exact hren.or hbj h4 (hf.ok.ob j o0 h3)
      · have h2 := hf.tr.size
        simp only [outG] at q
        split at q
        · split at q <;> cases q
        · split at q <;> cases q
        · rename_i hk; exact hf.ok.imm b hk
        · split at q
          · split at q <;> cases q
          · split at q <;> cases q
          · have := hok.imm b q
            omega
      · rw [List.length_append, a1, e1] at q
        have hn : ¬ id < m.length := by omega
        have : E[id - m.length]? = none := List.getElem?_eq_none (by omega)
        simp only [outG, if_neg hn, this]
      · have h2 := hf.tr.size
        simp only [outG, hf.ok.new b q, hok.new b (by omega)]
      · have h2 := hf.tr.size
        simp only [outG] at q
        split at q
        · have := hok.lt id b o q; omega
        · split at q
          · exact hf.ok.lt _ _ _ q
          · cases q
      · have h2 := hf.tr.size
        by_cases hid : id < m.length
        · simp only [outG, if_pos hid] at q
          cases hp : posOf id L with
          | none => simp only [hp] at q; have := hok.rlt _ _ _ _ _ _ q; omega
          | some k =>
            simp only [hp] at q
            cases hpm : posOf k mv with
            | none => simp only [hpm] at q; exact hf.ok.rlt _ _ _ _ _ _ q
            | some p => simp only [hpm] at q; have := hok.rlt _ _ _ _ _ _ q; omega
        · simp only [outG, if_neg hid] at q
          cases hE : E[id - m.length]? with
          | none => simp only [hE] at q; cases q
          | some k => simp only [hE] at q; exact hf.ok.rlt _ _ _ _ _ _ q
      · by_cases hid : id < m.length
        · simp only [outG, if_pos hid]
          cases hp : posOf id L with
          | none => exact hn1 _ _ _ _ (by omega)
          | some k =>
            dsimp only
            cases hpm : posOf k mv with
            | none => exact hn2 _ _ _ _ (by omega)
            | some p => exact hn1 _ _ _ _ (by omega)
        · simp only [outG, if_neg hid]
          cases hE : E[id - m.length]? with
          | none => rfl
          | some k => exact hn2 _ _ _ _ (by omega)
      · by_cases hid : id < m.length
        · simp only [outG, if_pos hid] at q ⊢
          cases hp : posOf id L with
          | none => exact hok.frl id q _ _ _
          | some k =>
            dsimp only
            cases hpm : posOf k mv with
            | none => exact hf.ok.frl k ((hkept k id (posOf_some hp) (posOf_none hpm)).1.trans q) _ _ _
            | some p => exact hok.frl id q _ _ _
        · simp only [outG, if_neg hid] at q ⊢
          cases hE : E[id - m.length]? with
          | none => rfl
          | some k => rw [hE] at q; exact hf.ok.frl k q _ _ _
    · cases hb
  · cases hb
theorem call_sound {S : Spec} (hS : SpecOk P S) (hok : Ok G w m) {f : FuncId} {args argsc : List V} {vs : Array Value} (hargs : VRL G w args vs) {L : List Nat} (hL : L.Nodup) (hm : footM m (fun id => posOf id L) L = some mc) (ha : renL (fun id => posOf id L) args = some argsc)
    {Post : V → List (Option Ob) → List Nat → Prop} (hsp : S f argsc mc Post) {K : V → List (Option Ob) → Prop}
    (hK : ∀ r mc' mv, Post r mc' mv → mv.Nodup ∧ (∀ j ∈ mv, j < L.length) ∧ ∃ m2 r2, backM L mv m mc' = some m2 ∧ ren (back L (newIds L mv mc'.length) m.length) r = some r2 ∧ K r2 m2) :
    Calls P f vs w fun e w' => ∃ v G2 r2 m2, e = .returned v ∧ K r2 m2 ∧ Ok G2 w' m2 ∧ VR G2 w' r2 v ∧ Adv G w G2 w' ∧ (∀ j, j < m.length → G2.loc j = G.loc j) ∧ m.length ≤ m2.length := by
  obtain ⟨h1, h2⟩ := footM_get hm
  have hLm : ∀ id ∈ L, id < m.length := fun id hid => by
    obtain ⟨j, hj⟩ := List.mem_iff_getElem?.1 hid
    obtain ⟨o, o', a1, _⟩ := h2 j id hj
    exact live_lt a1
  have hr := call_ren G L
  obtain ⟨b1, b2⟩ := renL_get ha
  refine (hS f argsc mc Post hsp (callG G L) w vs (call_ok hok hL hm) ⟨b1.trans hargs.1, fun j y hj => ?_⟩).mono fun e w' h => ?_
  · obtain ⟨x, c1, c2⟩ := b2 j y hj
    exact hr.vr (hargs.2 j x c1) c2
  · obtain ⟨v, G', r, mc', mv, rfl, hp, hf, hv⟩ := h
    obtain ⟨k1, k2, m2, r2, k3, k4, k5⟩ := hK r mc' mv hp
    obtain ⟨q1, q2, q3, q4⟩ := call_out hok hL hLm h1 hf k1 k2 k3
    refine ⟨v, _, r2, m2, rfl, k5, q1, q3.vr hv k4, q2, q4, ?_⟩
    unfold backM at k3
    split at k3
    · rename_i a ha'
      split at k3
      · cases k3
        rw [List.length_append, (backA_get m a 0 ha').1]
        omega
      · cases k3
    · cases k3
end
end Go.Proofs.YtogfcpaalcebdaaE
