/- Elements that are moved within a block: append where there is room, clear; so Delete and Insert. No program is named. -/
import Derived.Test.YtljipmhkpnigkaaV15
namespace Go.Vc
open Go.RowKit

section
variable {P : Program} {w : World} {S : Nat → Prop}
theorem blk_setRow {g e : Nat} {cur cs : Array Value} (h : Blk w g e cur) : Blk (w.setRow g cs) g e cs := setRow_heap w g cur cs e _ h
theorem kp_setRow (w : World) (g : Nat) (cs : Array Value) : Kp (One g) w (w.setRow g cs) := ⟨rfl, rfl, rfl, by simp [World.setRow], fun k _ hk => setRow_other w g k cs hk⟩
theorem oneCell_of {l : List Value} (h : ∀ u ∈ l, notAgg u = true) : ∀ u ∈ l, u.oneCell' = true := fun u hu => by
  have := h u hu
  cases u <;> first | rfl | (simp [notAgg] at this)
/-- append where there is room: within the block -/
theorem RunsV.appendRoom {t ty e : TypeId} {i : TypeInfo} {sz g n cap m c : Nat} {cur news : List Value} {p : Option Addr} (ht : P.underlying t = some (.slice e)) (hi : P.info? e = some i) (hs : i.size = sz)
    (hB : Blk w g e cur.toArray) (hp : p.isSome = true) (hl : news.length = m * sz) (hnews : ∀ a, p = some a → ∀ j u, news[j]? = some u → w.cell? (a.add j) = some u) (h1 : ∀ u ∈ news, notAgg u = true) (hroom : n + m ≤ cap) (hfit : n * sz + news.length ≤ cur.length)
    {K : Value → World → Prop} (hK : ∀ w', Blk w' g e (cur.take (n * sz) ++ news ++ cur.drop (n * sz + news.length)).toArray → Kp (One g) w w' → K (.slice (some ⟨g, 0, none⟩) (n + m) cap) w') :
    RunsV P (Builtin.append_ #[t, t] ty #[.slice (some ⟨g, 0, none⟩) n cap, .slice p m c]) w K := by
  subst hs
  obtain ⟨a, rfl⟩ := Option.isSome_iff_exists.1 hp
  refine .of fun k => ⟨_, 0, (w.drewN k).setRow g (cur.take (n * i.size) ++ news ++ cur.drop (n * i.size + news.length)).toArray, run_append_room (P := P) (w.drewN k) t ty e i ht hi g n cap cur.toArray hB a m c news hl (hnews a rfl) (oneCell_of h1) hroom (by simpa using hfit), ?_⟩
  exact hK _ (blk_setRow (w := w.drewN k) hB) ((Kp.drewN k).trans (kp_setRow (w.drewN k) g _))
theorem zeros_len (z : Array Value) (n : Nat) : (Builtin.zeroCells z n).toList.length = n * z.size := by simp [Builtin.zeroCells]
/-- clear: the cells behind the first o are zero, or as they were -/
theorem RunsV.clearAt {t ty e : TypeId} {i : TypeInfo} {z : Value} {sz g o n c : Nat} {cur : List Value} {p : Option Addr} (ht : P.underlying t = some (.slice e)) (hi : P.info? e = some i) (hz : i.zero = some z) (hzs : z.cells.size = sz) (hz1 : z.cells.toList.all notAgg = true)
    (hB : Blk w g e cur.toArray) (hp : p = some ⟨g, o, none⟩ ∨ n = 0) (hfit : o + n * sz ≤ cur.length)
    {K : Value → World → Prop} (hK : ∀ w' cur', Blk w' g e (cur.take o ++ cur').toArray → (cur.take o ++ cur').length = cur.length → Kp (One g) w w' → K (.tuple #[]) w') :
    RunsV P (Builtin.clear_ #[t] ty #[.slice p n c]) w K := by
  have hke : cur = cur.take o ++ cur.drop o := (List.take_append_drop o cur).symm
  by_cases hn : n = 0
  · subst hn
    refine .of fun k => ⟨_, 0, w.drewN k, ?_, hK _ (cur.drop o) (by rw [← hke]; exact hB) (by rw [← hke]) (Kp.drewN k)⟩
    cases p <;> simp [Builtin.clear_, run_underlying ht]
  · have hp' : p = some ⟨g, o, none⟩ := hp.resolve_right hn
    subst hp'
    have hzn : ∀ u ∈ (Builtin.zeroCells z.cells n).toList, notAgg u = true := by
      intro u hu
      simp only [Builtin.zeroCells, Array.toList_map, List.mem_map] at hu
      obtain ⟨q, hq, rfl⟩ := hu
      have hq' : q < n * z.cells.size := by simpa using hq
      have hpos : 0 < z.cells.size := by
        rcases Nat.eq_zero_or_pos z.cells.size with h0 | h0
        · rw [h0] at hq'; omega
        · exact h0
      have hlt : q % z.cells.size < z.cells.size := Nat.mod_lt _ hpos
      have : z.cells[q % z.cells.size]! ∈ z.cells.toList := by
        rw [getElem!_pos z.cells _ hlt]; simp
      exact List.all_eq_true.1 hz1 _ this
    refine .of fun k => ?_
    have hst := run_storeCells_at P g o e (Builtin.zeroCells z.cells n).toList 0 cur.toArray (w.drewN k) hB (by rw [zeros_len, hzs]; simpa using hfit) (oneCell_of hzn)
    rw [Nat.add_zero] at hst
    refine ⟨_, 0, (w.drewN k).setRow g (cur.take o ++ (Builtin.zeroCells z.cells n).toList ++ cur.drop (o + n * sz)).toArray, ?_, hK _ ((Builtin.zeroCells z.cells n).toList ++ cur.drop (o + n * sz)) ?_ ?_ ((Kp.drewN k).trans (kp_setRow (w.drewN k) g (cur.take o ++ (Builtin.zeroCells z.cells n).toList ++ cur.drop (o + n * sz)).toArray))⟩
    · obtain ⟨q, rfl⟩ : ∃ q, n = q + 1 := ⟨n - 1, by omega⟩
      rw [zeros_len, hzs] at hst
      simp [Builtin.clear_, run_underlying ht, zeroValue, typeInfo, hi, hz, hst]
      rfl
    · rw [← List.append_assoc]
      exact blk_setRow (w := w.drewN k) hB
    · simp only [List.length_append, List.length_take, zeros_len, List.length_drop, hzs]; omega
end
section
variable {α : Type} {enc : α → List Value} {sz : Nat}
theorem cellsOf_take (hsz : ∀ x, (enc x).length = sz) (l : List α) (i : Nat) : (cellsOf enc l).take (i * sz) = cellsOf enc (l.take i) := by
  rcases Nat.lt_or_ge l.length i with h | h
  · rw [List.take_of_length_le (l := l) (by omega), List.take_of_length_le]
    rw [cellsOf_len hsz]
    exact Nat.mul_le_mul_right _ (by omega)
  · conv => lhs; rw [← List.take_append_drop i l, cellsOf_append]
    rw [List.take_append_of_le_length (by rw [cellsOf_len hsz, List.length_take, Nat.min_eq_left h]; exact Nat.le_refl _), List.take_of_length_le]
    rw [cellsOf_len hsz, List.length_take, Nat.min_eq_left h]; exact Nat.le_refl _
theorem cellsOf_drop (hsz : ∀ x, (enc x).length = sz) (l : List α) (i : Nat) : (cellsOf enc l).drop (i * sz) = cellsOf enc (l.drop i) := by
  rcases Nat.lt_or_ge l.length i with h | h
  · rw [List.drop_eq_nil_of_le (by rw [cellsOf_len hsz]; exact Nat.mul_le_mul_right _ (by omega)), List.drop_eq_nil_of_le (by omega)]; rfl
  · conv => lhs; rw [← List.take_append_drop i l, cellsOf_append]
    have hl : (cellsOf enc (l.take i)).length = i * sz := by rw [cellsOf_len hsz, List.length_take, Nat.min_eq_left h]
    rw [← hl, List.drop_left]
/-- an own slice that is not empty: its block -/
theorem owns_blkOf {w : World} {B e n c : Nat} {p : Option Addr} {l : List α} (h : w.ownsRow B e sz (.slice p n c) n (cellsOf enc l)) (hn : 0 < n) :
    ∃ g cur, p = some ⟨g, 0, none⟩ ∧ B ≤ g ∧ Blk w g e (List.toArray cur) ∧ n ≤ c ∧ c ≤ maxLen ∧ cur.length = c * sz ∧ cur.take (n * sz) = cellsOf enc l := by
  rcases h.2 with ⟨he, h0⟩ | ⟨g, cap, cur, he, hb, hh, hnc, hcm, hcs, htk⟩
  · omega
  · cases he
    exact ⟨g, cur.toList, rfl, hb, hh, hnc, hcm, by simpa using hcs, htk⟩
theorem owns_ofBlk {w : World} {B e n c g : Nat} {cur : List Value} {l : List α} (hsz : ∀ x, (enc x).length = sz) (hB : B ≤ g) (h : Blk w g e cur.toArray) (hnc : n ≤ c) (hc : c ≤ maxLen) (hl : cur.length = c * sz) (hn : n = l.length) (ht : cur.take (n * sz) = cellsOf enc l) :
    w.ownsRow B e sz (.slice (some ⟨g, 0, none⟩) n c) n (cellsOf enc l) :=
  ⟨by rw [cellsOf_len hsz, hn], .inr ⟨g, c, cur.toArray, rfl, hB, h, hnc, hc, by simpa using hl, by simpa using ht⟩⟩
theorem kp_at {w w' : World} {g n c : Nat} (h : Kp (One g) w w') : Kp (At (.slice (some ⟨g, 0, none⟩) n c)) w w' := h.mono fun i hi => by cases hi; rfl
theorem addr_zero (a : Addr) : a.add 0 = a := by simp [Addr.add]
theorem slice_lo (p : Option Addr) (c lo s : Nat) (h : c ≠ lo) : (if c = lo then p else p.map (fun x => x.add (lo * s))) = p.map (fun x => x.add (lo * s)) := if_neg h
theorem map_zero (p : Option Addr) (s : Nat) : p.map (fun x => x.add (0 * s)) = p := by cases p <;> simp [Addr.add]
end
/- One element of an own slice is set -/
theorem setsL_eq : ∀ (l cs : List Value) (o : Nat), o + l.length ≤ cs.length → setsL cs o l = cs.take o ++ l ++ cs.drop (o + l.length)
  | [], cs, o, _ => by simp [setsL]
  | v :: r, cs, o, h => by
    simp only [List.length_cons] at h
    unfold setsL
    rw [setsL_eq r (cs.set o v) (o + 1) (by rw [List.length_set]; omega)]
    have h1 : (cs.set o v).take (o + 1) = cs.take o ++ [v] := by
      rw [List.take_succ_eq_append_getElem (by rw [List.length_set]; omega), List.getElem_set_self, List.take_set_of_le (Nat.le_refl _)]
    have h2 : (cs.set o v).drop (o + 1 + r.length) = cs.drop (o + (v :: r).length) := by
      rw [List.drop_set_of_lt (by omega), List.length_cons]
      congr 1; omega
    rw [h1, h2]; simp
theorem take_splice {l v : List Value} {o N : Nat} (h : o + v.length ≤ N) (hN : N ≤ l.length) : (l.take o ++ v ++ l.drop (o + v.length)).take N = (l.take N).take o ++ v ++ (l.take N).drop (o + v.length) := by
  have hlen : (l.take o ++ v).length = o + v.length := by rw [List.length_append, List.length_take, Nat.min_eq_left (by omega)]
  rw [List.take_append, hlen, List.take_of_length_le (l := l.take o ++ v) (by omega), List.take_take, Nat.min_eq_left (by omega), List.drop_take]
section
variable {α : Type} {enc : α → List Value} {sz : Nat} {S : Nat → Prop} {w0 w : World} {L : List Atom}
theorem cellsOf_set (hsz : ∀ x, (enc x).length = sz) {l : List α} {j : Nat} (x : α) (hj : j < l.length) : cellsOf enc (l.set j x) = setsL (cellsOf enc l) (j * sz) (enc x) := by
  have hle : j * sz + sz ≤ l.length * sz := by rw [← Nat.succ_mul]; exact Nat.mul_le_mul_right _ hj
  rw [setsL_eq _ _ _ (by rw [hsz, cellsOf_len hsz]; exact hle), hsz, cellsOf_take hsz, ← Nat.succ_mul, cellsOf_drop hsz, ← cellsOf_one (enc := enc) x, ← cellsOf_append, ← cellsOf_append]
  congr 1
  rw [List.set_eq_take_append_cons_drop, if_pos hj]; simp
theorem St.rowSet (h : St S w0 w L) (k : Nat) {B e n c j : Nat} {a : Addr} {l : List α} {x : α} (hsz : ∀ x, (enc x).length = sz) (hA : L[k]? = some (.row B e sz (.slice (some a) n c) n (cellsOf enc l))) (hn : n = l.length) (hj : j < l.length) (hna : ∀ u ∈ enc x, notAgg u = true) {F : World → Prop}
    (hF : ∀ w', St S w0 w' (L.set k (.row B e sz (.slice (some a) n c) n (cellsOf enc (l.set j x)))) → F w') : WrRow w (a.add (j * sz)) 0 (enc x) ∧ LetW (setRow w (a.add (j * sz)) 0 (enc x)) F := by
  subst hn
  obtain ⟨g, cur, ha, hB, hb, hnc, hcm, hcl, htk⟩ := owns_blkOf (h.hold k _ hA) (by omega)
  cases ha
  have hle : j * sz + sz ≤ l.length * sz := by rw [← Nat.succ_mul]; exact Nat.mul_le_mul_right _ hj
  have hle2 : l.length * sz ≤ cur.length := by rw [hcl]; exact Nat.mul_le_mul_right _ hnc
  rw [add_head]
  refine ⟨WrRow.blk hb hna (by simp [hsz]; omega), LetW.row (cs' := (setsL cur (j * sz) (enc x)).toArray) hb (setsFrom_toArray _ _ _) fun w' hb' hk => hF w' (h.turn k hA (kp_at hk) ?_ (fun _ hg => .inl hg))⟩
  refine owns_ofBlk hsz hB hb' hnc hcm ?_ (by simp) ?_
  · rw [setsL_eq _ _ _ (by rw [hsz]; omega)]
    simp only [List.length_append, List.length_take, List.length_drop, hsz]; omega
  · rw [cellsOf_set hsz x hj, ← htk, setsL_eq _ _ _ (by rw [hsz]; omega), setsL_eq _ _ _ (by rw [hsz, List.length_take]; omega)]
    exact take_splice (by rw [hsz]; exact hle) hle2
end
end Go.Vc
