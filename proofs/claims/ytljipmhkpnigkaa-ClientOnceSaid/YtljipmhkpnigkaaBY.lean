/- Bytes of a string, strings one behind the other; a call that turns one atom and reads another one. No program is named. -/
import Derived.Test.YtljipmhkpnigkaaFR
namespace Go.Vc
open Go.RowKit

/-- bytes of the call's own -/
def byteA (g : Nat) (l : List UInt8) : Atom :=
  .any (One g) (fun w => g < w.heap.size ∧ BytesAt w ⟨g, 0, none⟩ l) (fun hk hs h => ⟨Nat.lt_of_lt_of_le h.1 hk.size, h.2.kp hk (hs _ rfl)⟩) (fun h _ hg => by cases hg; exact h.1)
theorem BytesAt.cut {w : World} {a : Addr} {l : List UInt8} (h : BytesAt w a l) (i n : Nat) : BytesAt w (a.add i) ((l.drop i).take n) := fun j hj => by
  rw [List.length_take, List.length_drop] at hj
  have := h (i + j) (by omega)
  rw [Addr.add_add, this]
  simp
section
variable {P : Program} {S : Nat → Prop} {w0 w : World} {L : List Atom}
theorem St.toBytes (st : St S w0 w L) {src dst e : TypeId} {l : List UInt8} (hs : P.underlying src = some .string) (hd : P.underlying dst = some (.slice e)) (he : P.underlying e = some (.int .u8)) {K : Value → World → Prop}
    (hK : ∀ g c w', l.length ≤ c → St S w0 w' (byteA g l :: L) → K (.slice (some ⟨g, 0, none⟩) l.length c) w') : RunsV P (convert src dst (.string (Vc.mk l))) w K := by
  refine .of fun n => ?_
  have hr := run_bytes_of_string (w.drewN n) src dst e (Vc.mk l) hs hd he
  have key : ∀ v w', (convert src dst (.string (Vc.mk l))).run P (w.drewN n) = .ok v w' → K v w' → ∃ v m w'', (convert src dst (.string (Vc.mk l))).run P (w.drewN n) = .ok v (World.drewN w'' m) ∧ K v w'' := fun v w' h hk => ⟨v, 0, w', h, hk⟩
  refine key _ _ hr (hK _ _ _ (grownCap_ge _ _ _ _) ?_)
  refine st.push (((Kp.drewN n).trans (Kp.drewN 1)).trans (Kp.alloc _)) ⟨by simp [World.alloc], fun j hj => ?_⟩ (fun g hg => by cases hg; exact Nat.le_refl _)
  have : (⟨w.heap.size, 0, none⟩ : Addr).add j = ⟨w.heap.size, j, none⟩ := by simp [Addr.add]; exact fun h => h.symm
  have hh : (w.drewN n).heap.size = w.heap.size := rfl
  rw [hh, this]
  refine (cell_of_row _ w.heap.size j _ e _ (heap_alloc_new (w.drewN n).drew _)).trans ?_
  rw [bytesRow_at (Vc.mk l) _ j hj]
  simp [Vc.mk]
/-- a call that turns one atom, and reads another one -/
def Tr (P : Program) (f : FuncId) (args : Array Value) (A A' B : Atom) (v : Value) : Prop := ∀ w, A.p w → B.p w → (∀ g, A.foot g → ¬ B.foot g) → Ca P f args w fun e w' => e = .returned v ∧ A'.p w' ∧ Kp A.foot w w'
theorem Tr.go {f : FuncId} {args : Array Value} {v : Value} {A A' B : Atom} (h : Tr P f args A A' B v) (st : St S w0 w L) (k j : Nat) (hA : L[k]? = some A) (hB : L[j]? = some B) (hne : k ≠ j) (hf : ∀ g, A'.foot g → A.foot g) {R : Ending → World → Prop}
    (hR : ∀ w', St S w0 w' (L.set k A') → R (.returned v) w') : Ca P f args w R :=
  (h w (st.hold k A hA) (st.hold j B hB) (st.disj k j A B hne hA hB)).mono fun _ w1 ⟨he, hp, hk⟩ => he ▸ hR w1 (st.turn k hA hk hp (fun g hg => .inl (hf g hg)))
/-- what is read of another atom, behind what was done with one's own -/
theorem St.other {A B : Atom} {w0 w : World} {L : List Atom} (st : St A.foot w0 w L) (hB : B.p w0) (hd : ∀ g, A.foot g → ¬ B.foot g) : B.p w := B.stable st.kp (fun g hb ha => hd g ha hb) hB
end
/- rows of any base -/
section
variable {P : Program} {S : Nat → Prop} {w0 w : World} {L L1 L2 : List Atom}
theorem St.rebase (st : St S w0 w L) (k : Nat) {B e size n : Nat} {v : Value} {xs : List Value} (hA : L[k]? = some (.row B e size v n xs)) : St S w0 w (L.set k (.row 0 e size v n xs)) :=
  st.turn k hA (Kp.refl _ _) (owns_base (st.hold k _ hA) (Nat.zero_le _)) (fun _ hg => .inl hg)
theorem St.nil0 (h : St S w0 w L) (e size : Nat) : St S w0 w (.row 0 e size (.slice none 0 0) 0 [] :: L) :=
  h.push (Kp.refl _ _) (owns_nil w _ e size) (fun g hg => by cases hg)
theorem St.append0 (h : St S w0 w L) (k : Nat) {t e : TypeId} {i : TypeInfo} {z v : Value} {size bytes n : Nat} {xs : List Value} (ht : P.underlying t = some (.slice e)) (hi : P.info? e = some i) (hz : i.zero = some z)
    (hsize : i.size = size) (hby : i.bytes = bytes) (hzs : z.cells.size = size) (hsz : 0 < size) (hA : L[k]? = some (.row 0 e size v n xs))
    {a : Addr} {m c : Nat} {news : List Value} (hl : news.length = m * size) (hnews : ∀ j u, news[j]? = some u → w.cell? (a.add j) = some u) (h1 : ∀ u ∈ news, notAgg u = true)
    (h63 : n + m ≤ maxLen) (hbytes : (n + m) * bytes ≤ 140737488355328) {ty : TypeId} {K : Value → World → Prop}
    (hK : ∀ p' c' w', St S w0 w' (L.set k (.row 0 e size (.slice p' (n + m) c') (n + m) (xs ++ news))) → K (.slice p' (n + m) c') w') :
    RunsV P (Builtin.append_ #[t, t] ty #[v, .slice (some a) m c]) w K :=
  RunsV.append ht hi hz hsize hby hzs hsz (h.hold k _ hA) hl hnews h1 h63 hbytes (Nat.zero_le _) fun v' w' ho hk hat => by
    obtain ⟨p', c', rfl, _⟩ := owns_form ho
    refine hK p' c' w' (h.turn k hA hk ho fun g hg => ?_)
    rcases hat with hv | hv
    · exact .inl (by show v.ownBlock = some g; rw [← hv]; exact hg)
    · right
      have hg' : (Value.slice p' (n + m) c').ownBlock = some g := hg
      rw [hv] at hg'
      cases hg'; exact Nat.le_refl _
variable {α : Type} {enc : α → List Value} {sz : Nat}
theorem St.appendEl0 (h : St S w0 w L) (k : Nat) {t e : TypeId} {i : TypeInfo} {z v : Value} {bytes n m c : Nat} {p : Option Addr} {xs l : List α} (ht : P.underlying t = some (.slice e)) (hi : P.info? e = some i) (hz : i.zero = some z)
    (hsize : i.size = sz) (hby : i.bytes = bytes) (hzs : z.cells.size = sz) (hs0 : 0 < sz) (hsz : ∀ x, (enc x).length = sz) (hna : ∀ x, ∀ u ∈ enc x, notAgg u = true) (hA : L[k]? = some (.row 0 e sz v n (cellsOf enc xs)))
    (hE : ElAt enc sz w p l) (hp : p.isSome = true) (hm : m = l.length) (h63 : n + m ≤ maxLen) (hbytes : (n + m) * bytes ≤ 140737488355328) {ty : TypeId} {K : Value → World → Prop}
    (hK : ∀ p' c' w', St S w0 w' (L.set k (.row 0 e sz (.slice p' (n + m) c') (n + m) (cellsOf enc (xs ++ l)))) → K (.slice p' (n + m) c') w') :
    RunsV P (Builtin.append_ #[t, t] ty #[v, .slice p m c]) w K := by
  obtain ⟨a, rfl⟩ := Option.isSome_iff_exists.1 hp
  refine St.append0 h k ht hi hz hsize hby hzs hs0 hA (news := cellsOf enc l) (by rw [cellsOf_len hsz, hm]) (fun j u hu => hE.cells hsz rfl hu) (fun u hu => ?_) h63 hbytes ?_
  · unfold cellsOf at hu
    obtain ⟨x, _, hx⟩ := List.mem_flatMap.1 hu
    exact hna x u hx
  · intro p' c' w' st
    rw [← cellsOf_append] at st
    exact hK p' c' w' st
/-- append of what lies there, none too -/
theorem St.appendAny0 (h : St S w0 w L) (k : Nat) {t e : TypeId} {i : TypeInfo} {z : Value} {bytes n m c cv : Nat} {p pv : Option Addr} {xs l : List α} (ht : P.underlying t = some (.slice e)) (hi : P.info? e = some i) (hz : i.zero = some z)
    (hsize : i.size = sz) (hby : i.bytes = bytes) (hzs : z.cells.size = sz) (hs0 : 0 < sz) (hsz : ∀ x, (enc x).length = sz) (hna : ∀ x, ∀ u ∈ enc x, notAgg u = true) (hA : L[k]? = some (.row 0 e sz (.slice pv n cv) n (cellsOf enc xs)))
    (hE : ElAt enc sz w p l) (hm : m = l.length) (h63 : n + m ≤ maxLen) (hbytes : (n + m) * bytes ≤ 140737488355328) {ty : TypeId} {K : Value → World → Prop}
    (hK : ∀ p' c' w', St S w0 w' (L.set k (.row 0 e sz (.slice p' (n + m) c') (n + m) (cellsOf enc (xs ++ l)))) → K (.slice p' (n + m) c') w') :
    RunsV P (Builtin.append_ #[t, t] ty #[.slice pv n cv, .slice p m c]) w K := by
  rcases Nat.eq_zero_or_pos m with h0 | h0
  · subst h0
    have hl : l = [] := List.eq_nil_of_length_eq_zero hm.symm
    subst hl
    have hks : ∀ n', St S w0 (w.drewN n') (L.set k (.row 0 e sz (.slice pv (n + 0) cv) (n + 0) (cellsOf enc (xs ++ [])))) := fun n' => by
      rw [Nat.add_zero, List.append_nil]
      have hke := h.keep (Kp.drewN n')
      exact hke.turn k hA (Kp.refl _ _) (hke.hold k _ hA) (fun _ hg => .inl hg)
    refine .of fun q => ⟨.slice pv (n + 0) cv, 0, w.drewN q, ?_, hK pv cv _ (hks q)⟩
    have hcap : n ≤ cv := (owns_cap (h.hold k _ hA)).1
    cases p <;> cases pv <;> simp [Builtin.append_, run_underlying ht, sizeOf, typeInfo, hi, Builtin.lenOf, Builtin.firstCells, loadCells, loadCellsFrom, hcap, storeCells]
  · obtain ⟨a, rfl⟩ := hE.some_ (by omega)
    exact St.appendEl0 h k ht hi hz hsize hby hzs hs0 hsz hna hA hE rfl hm h63 hbytes hK
theorem St.append10 (h : St S w0 w L) (k j : Nat) {t e : TypeId} {i : TypeInfo} {z v : Value} {bytes n b : Nat} {xs : List α} {x : α} (ht : P.underlying t = some (.slice e)) (hi : P.info? e = some i) (hz : i.zero = some z)
    (hsize : i.size = sz) (hby : i.bytes = bytes) (hzs : z.cells.size = sz) (hs0 : 0 < sz) (hsz : ∀ x, (enc x).length = sz) (hna : ∀ x, ∀ u ∈ enc x, notAgg u = true) (hA : L[k]? = some (.row 0 e sz v n (cellsOf enc xs)))
    (hB : L[j]? = some (.blk b e (enc x))) (h63 : n + 1 ≤ maxLen) (hbytes : (n + 1) * bytes ≤ 140737488355328) {ty : TypeId} {K : Value → World → Prop}
    (hK : ∀ p' c' w', St S w0 w' (L.set k (.row 0 e sz (.slice p' (n + 1) c') (n + 1) (cellsOf enc (xs ++ [x])))) → K (.slice p' (n + 1) c') w') :
    RunsV P (Builtin.append_ #[t, t] ty #[v, .slice (some ⟨b, 0, none⟩) 1 1]) w K := by
  refine St.appendEl0 h k ht hi hz hsize hby hzs hs0 hsz hna hA (l := [x]) (ElAt.of_cells hsz rfl fun q u hu => ?_) rfl rfl h63 hbytes hK
  rw [add_head, cellsOf_one] at *
  exact Blk.at_ (h.hold j _ hB) (by simpa using hu)
theorem St.pushRow0 (h : St S w0 w L) {w' : World} {B e size n : Nat} {v : Value} {xs : List Value} (hk : Kp No w w') (ho : w'.ownsRow B e size v n xs) (hB : w.heap.size ≤ B) : St S w0 w' (.row 0 e size v n xs :: L) :=
  h.push hk (owns_base ho (Nat.zero_le _)) (fun _ hg => Nat.le_trans hB (owns_at ho hg).1)
/-- what a call that knew nothing has made -/
theorem St.made (st : St S w0 w L2) {w' : World} (st' : St No w w' L1) : St S w0 w' (L1 ++ L2) :=
  St.leave (L1 := []) st (st'.mono fun _ h => h.elim)
end
theorem laterW {T : World → Prop} {G : Prop} (A : World → Prop) (k : (∀ w, A w → T w) → G) (h : ∀ w, A w → T w) : G := k h
abbrev strE (l : List UInt8) : List Value := [.string (mk l)]
theorem strE_len (l : List UInt8) : (strE l).length = 1 := rfl
theorem strE_plain (l : List UInt8) : ∀ u ∈ strE l, notAgg u = true := by simp [strE, notAgg]
abbrev StrAt (w : World) (p : Option Addr) (l : List (List UInt8)) : Prop := ElAt strE 1 w p l
end Go.Vc
