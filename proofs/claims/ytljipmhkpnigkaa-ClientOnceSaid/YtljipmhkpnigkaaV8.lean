/- Blocks whose first cells are known; make; a copy by append. No program is named. -/
import Derived.Test.YtljipmhkpnigkaaV7
import Derived.Laws.MakeOwn
namespace Go.Vc
open Go.RowKit

/-- a block whose first cells these are -/
def Sl (w : World) (g : Nat) (t : TypeId) (xs : List Value) : Prop := ∃ tl : List Value, Blk w g t ⟨xs ++ tl⟩
section
variable {w w' : World} {g : Nat} {t : TypeId} {xs : List Value} {S : Nat → Prop}
theorem Blk.sl (h : Blk w g t ⟨xs⟩) : Sl w g t xs := ⟨[], by simpa using h⟩
theorem Sl.lt (h : Sl w g t xs) : g < w.heap.size := by obtain ⟨tl, h⟩ := h; exact h.lt
theorem Sl.kp (h : Sl w g t xs) (k : Kp S w w') (hs : ¬ S g) : Sl w' g t xs := by obtain ⟨tl, h⟩ := h; exact ⟨tl, h.kp k hs⟩
theorem Sl.get (h : Sl w g t xs) {i : Nat} {v : Value} (hv : xs[i]? = some v) : w.cell? ⟨g, i, none⟩ = some v := by
  obtain ⟨tl, h⟩ := h
  have hi : i < xs.length := by
    rcases Nat.lt_or_ge i xs.length with h' | h'
    · exact h'
    · simp [List.getElem?_eq_none h'] at hv
  exact h.at_ (by simpa [List.getElem?_append_left hi] using hv)
theorem Sl.wr (h : Sl w g t xs) {i : Nat} (hi : i < xs.length) : Wr w ⟨g, i, none⟩ := by
  obtain ⟨tl, h⟩ := h
  exact h.wr (v := xs[i]) (by simp [List.getElem?_append_left hi, hi])
theorem Sl.ne_ {g' t' : Nat} {xs' : List Value} (h : Sl w g t xs) (h' : Sl w g' t' xs') (hne : t ≠ t') : g ≠ g' := by
  obtain ⟨tl, h⟩ := h
  obtain ⟨tl', h'⟩ := h'
  exact Blk.ne_ h h' hne
theorem LetW.sl {i : Nat} {u : Value} {F : World → Prop} (h : Sl w g t xs) (hi : i < xs.length) (hF : ∀ w', Sl w' g t (xs.set i u) → Kp (One g) w w' → F w') : LetW (w.setCell ⟨g, i, none⟩ u) F := by
  obtain ⟨tl, h⟩ := h
  refine LetW.blk (cs' := ⟨xs.set i u ++ tl⟩) h ?_ fun w' hb hk => hF w' ⟨tl, hb⟩ hk
  apply Array.ext'
  simp [List.set_append_left _ _ hi]
end

section
variable {P : Program} {w : World}
theorem RunsV.make1 {t e : TypeId} {i : TypeInfo} {z u : Value} {bytes : Nat} (ht : P.underlying t = some (.slice e)) (hi : P.info? e = some i) (hz : i.zero = some z) (hs : i.size = 1) (hc : z.cells = #[u])
    (hb : i.bytes = bytes) {l : Int} (h0 : 0 ≤ l) (h1 : (bytes : Int) * l ≤ 281474976710656) (h2 : l ≤ 9223372036854775807) {K : Value → World → Prop}
    (hK : ∀ w', Blk w' w.heap.size e ⟨List.replicate l.toNat u⟩ → Kp No w w' → K (.slice (some ⟨w.heap.size, 0, none⟩) l.toNat l.toNat) w') :
    RunsV P (Instr.makeSlice t (.int .i64 l) (.int .i64 l)) w K := by
  refine .of fun k => ?_
  subst hb
  have hr := run_make (P := P) (w.drewN k) t e i z ht hi hz .i64 .i64 l l h0 (Int.le_refl _) h1 h2
  refine ⟨_, 0, _, hr, hK _ ?_ ((Kp.drewN k).trans (Kp.alloc _))⟩
  have : madeCells z.cells (l.toNat * i.size) = ⟨List.replicate l.toNat u⟩ := by
    rw [hc, hs, Nat.mul_one]
    apply Array.ext'
    simp [madeCells, Nat.mod_one]
    apply List.ext_getElem
    · simp
    · intro j h1 h2; simp
  rw [this]
  exact Blk.new (w.drewN k) e _

theorem RunsV.clone {t ty e : TypeId} {size bytes : Nat} {i : TypeInfo} {z : Value} (ht : P.underlying t = some (.slice e)) (hi : P.info? e = some i) (hz : i.zero = some z)
    (hsize : i.size = size) (hby : i.bytes = bytes) (hzs : z.cells.size = size) (hsz : 0 < size)
    {a : Addr} {m c : Nat} {news : List Value} (hm : 0 < m) (hl : news.length = m * size) (hnews : ∀ j u, news[j]? = some u → w.cell? (a.add j) = some u) (h1 : ∀ u ∈ news, notAgg u = true)
    (h63 : m ≤ maxLen) (hbytes : m * bytes ≤ 140737488355328) {K : Value → World → Prop}
    (hK : ∀ w' c', Sl w' w.heap.size e news → Kp No w w' → K (.slice (some ⟨w.heap.size, 0, none⟩) m c') w') :
    RunsV P (Builtin.append_ #[t, t] ty #[.slice none 0 0, .slice (some a) m c]) w K := by
  refine RunsV.append ht hi hz hsize hby hzs hsz (owns_nil w w.heap.size e size) hl hnews h1 (by omega) (by simpa using hbytes) (Nat.le_refl _) ?_
  intro v' w' ho hk hat
  rcases ho.2 with ⟨_, h0⟩ | ⟨g, cap, cur, rfl, hb, hh, hnc, hcm, hcs, htk⟩
  · omega
  · have hg : g = w.heap.size := by
      rcases hat with h | h
      · simp [Value.ownBlock] at h
      · simpa [Value.ownBlock] using h
    subst hg
    rw [Nat.zero_add] at htk ⊢
    refine hK w' cap ⟨cur.toList.drop (m * size), ?_⟩ (hk.mono fun j hj => by simp [At, Value.ownBlock] at hj)
    have : (⟨news ++ cur.toList.drop (m * size)⟩ : Array Value) = cur := by
      apply Array.ext'
      simp only [List.nil_append] at htk
      rw [← htk]; simp
    rw [this]
    exact hh
end
end Go.Vc
