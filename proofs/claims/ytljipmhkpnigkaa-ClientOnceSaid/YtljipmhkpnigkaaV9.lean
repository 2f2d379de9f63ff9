/- Strings and rows of bytes. No program is named. -/
import Derived.Test.YtljipmhkpnigkaaV8
import Derived.Laws.IdiomStrings
import Derived.Laws.Strings
namespace Go.Vc
open Go.RowKit

/-- these bytes lie from here on -/
def BytesAt (w : World) (a : Addr) (l : List UInt8) : Prop := ∀ j (hj : j < l.length), w.cell? (a.add j) = some (.int .u8 (l[j].toNat : Int))
theorem BytesAt.kp {S : Nat → Prop} {w w' : World} {a : Addr} {l : List UInt8} (h : BytesAt w a l) (k : Kp S w w') (hs : ¬ S a.block) : BytesAt w' a l := fun j hj => by
  have hb : (a.add j).block = a.block := by unfold Addr.add; split <;> rfl
  exact k.cell (h j hj) (by rw [hb]; exact hs)
def byteVals (l : List UInt8) : List Value := l.map fun b => .int .u8 (b.toNat : Int)
theorem Sl.bytes {w : World} {g t : Nat} {l : List UInt8} (h : Sl w g t (byteVals l)) : BytesAt w ⟨g, 0, none⟩ l := fun j hj => by
  have : (⟨g, 0, none⟩ : Addr).add j = ⟨g, j, none⟩ := by simp [Addr.add]; exact fun h => h.symm
  rw [this]
  exact h.get (by simp [byteVals, hj])

section
variable {P : Program} {w : World} {K : Value → World → Prop}
theorem RunsV.toStr {src dst e : TypeId} {a : Addr} {n cap : Nat} {l : List UInt8} (hs : P.underlying src = some (.slice e)) (he : P.underlying e = some (.int .u8)) (hd : P.underlying dst = some .string)
    (hn : n = l.length) (hc : BytesAt w a l) (hK : K (.string ⟨l.toArray⟩) w) : RunsV P (convert src dst (.slice (some a) n cap)) w K := by
  subst hn
  exact .of fun n => ⟨_, n, w, run_convert_bytes_back (w.drewN n) src dst e a cap l hs he hd hc, hK⟩
theorem RunsV.toBytes {src dst e : TypeId} {s : ByteArray} (hs : P.underlying src = some .string) (hd : P.underlying dst = some (.slice e)) (he : P.underlying e = some (.int .u8))
    (hK : ∀ w' c, BytesAt w' ⟨w.heap.size, 0, none⟩ s.data.toList → Kp No w w' → K (.slice (some ⟨w.heap.size, 0, none⟩) s.size c) w') : RunsV P (convert src dst (.string s)) w K := by
  refine .of fun n => ?_
  have hr := run_bytes_of_string (w.drewN n) src dst e s hs hd he
  have key : ∀ v w', (convert src dst (.string s)).run P (w.drewN n) = .ok v w' → K v w' → ∃ v m w'', (convert src dst (.string s)).run P (w.drewN n) = .ok v (World.drewN w'' m) ∧ K v w'' := fun v w' h hk => ⟨v, 0, w', h, hk⟩
  refine key _ _ hr (hK _ _ (fun j hj => ?_) ?_)
  · have : (⟨w.heap.size, 0, none⟩ : Addr).add j = ⟨w.heap.size, j, none⟩ := by simp [Addr.add]; exact fun h => h.symm
    rw [this]
    have hj' : j < s.data.size := by simpa using hj
    refine (cell_of_row _ w.heap.size j _ e _ (heap_alloc_new (w.drewN n).drew _)).trans ?_
    rw [bytesRow_at s _ j hj']
    simp
  · exact ((Kp.drewN n).trans (Kp.drewN 1)).trans (Kp.alloc _)
/-- a slice whose block is known, as one of the call's own -/
theorem owns_blk {B e n cap : Nat} {g : Nat} {cs : Array Value} {xs : List Value} (h : Blk w g e cs) (hB : B ≤ g) (hn : n ≤ cap) (hc : cap ≤ maxLen) (hs : cs.size = cap) (hl : xs.length = n) (ht : cs.toList.take n = xs) :
    w.ownsRow B e 1 (.slice (some ⟨g, 0, none⟩) n cap) n xs :=
  ⟨by omega, .inr ⟨g, cap, cs, rfl, hB, h, hn, hc, by omega, by rw [Nat.mul_one]; exact ht⟩⟩
/-- make with a spare part -/
theorem RunsV.make2 {t e : TypeId} {i : TypeInfo} {z u : Value} {bytes : Nat} (ht : P.underlying t = some (.slice e)) (hi : P.info? e = some i) (hz : i.zero = some z) (hs : i.size = 1) (hc : z.cells = #[u])
    (hb : i.bytes = bytes) {l c : Int} (h0 : 0 ≤ l) (hlc : l ≤ c) (h1 : (bytes : Int) * c ≤ 281474976710656) (h2 : c ≤ 9223372036854775807)
    (hK : ∀ w', Blk w' w.heap.size e ⟨List.replicate c.toNat u⟩ → Kp No w w' → K (.slice (some ⟨w.heap.size, 0, none⟩) l.toNat c.toNat) w') :
    RunsV P (Instr.makeSlice t (.int .i64 l) (.int .i64 c)) w K := by
  refine .of fun k => ?_
  subst hb
  have hr := run_make (P := P) (w.drewN k) t e i z ht hi hz .i64 .i64 l c h0 hlc h1 h2
  refine ⟨_, 0, _, hr, hK _ ?_ ((Kp.drewN k).trans (Kp.alloc _))⟩
  have : madeCells z.cells (c.toNat * i.size) = ⟨List.replicate c.toNat u⟩ := by
    rw [hc, hs, Nat.mul_one]
    apply Array.ext'
    simp [madeCells, Nat.mod_one]
    apply List.ext_getElem
    · simp
    · intro j h1 h2; simp
  rw [this]
  exact Blk.new (w.drewN k) e _
/-- a string of the bytes of an own row -/
theorem RunsV.toStrOwn {src dst e B n : Nat} {v : Value} {l : List UInt8} (hs : P.underlying src = some (.slice e)) (he : P.underlying e = some (.int .u8)) (hd : P.underlying dst = some .string)
    (ho : w.ownsRow B e 1 v n (byteVals l)) (h0 : 0 < n) (hK : K (.string ⟨l.toArray⟩) w) : RunsV P (convert src dst v) w K := by
  obtain ⟨p, c, rfl, hp⟩ := owns_form ho
  obtain ⟨g, rfl, _, _, hg⟩ := hp h0
  have hl : (byteVals l).length = n * 1 := ho.1
  refine RunsV.toStr hs he hd (l := l) (by simpa [byteVals] using hl.symm) (fun j hj => ?_) hK
  have : (⟨g, 0, none⟩ : Addr).add j = ⟨g, j, none⟩ := by simp [Addr.add]; exact fun h => h.symm
  rw [this]
  exact hg j _ (by simp [byteVals, hj])
end

/- a string as the list of its bytes -/
def mk (l : List UInt8) : ByteArray := ⟨⟨l⟩⟩
theorem mk_of (s : ByteArray) : ∃ l, s = mk l := ⟨s.data.toList, rfl⟩
theorem mk_inj {a b : List UInt8} : mk a = mk b ↔ a = b := by simp [mk]
theorem mk_size (l : List UInt8) : (mk l).size = l.length := rfl
theorem mk_nil : ({ data := #[] } : ByteArray) = mk [] := rfl
theorem mk_append (a b : List UInt8) : mk a ++ mk b = mk (a ++ b) := by
  apply ByteArray.ext
  rw [ByteArray.data_append]
  simp [mk]
theorem mk_extract (l : List UInt8) (a b : Nat) : (mk l).extract a b = mk ((l.take b).drop a) := by
  apply ByteArray.ext
  rw [ByteArray.data_extract]
  apply Array.ext'
  simp [mk, List.drop_take, List.extract]
theorem mk_toList (l : List UInt8) : (mk l).toList = l := by rw [ByteArray.toList_eq]; rfl
theorem mk_getD (l : List UInt8) (i : Nat) : (mk l).data.getD i 0 = l.getD i 0 := by
  simp [mk, Array.getD, List.getD]
  by_cases h : i < l.length <;> simp [h]
end Go.Vc
