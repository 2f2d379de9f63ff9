/- Frames as bytes: the plain law. No program is named. -/
import Derived.Test.YtljipmhkpnigkaaV11
import Derived.Test.YtljipmhkpnigkaaV17
namespace Go.Codec

structure Rsl where
  code : Int
  val : List UInt8
  ver : Int
  at_ : Int
structure Ent where
  idx : Int
  cl : Int
  sq : Int
  op : Opn
/-- a frame; its numbers in the order Epoch, Client, Seq, Try, Class, Deadline, Reason, Index, Grant, Have -/
structure Frm where
  kind : Int
  nums : Nat → Int
  op : Opn
  res : Rsl
  ent : Ent
  ch : Chn
def Rsl.none : Rsl := ⟨0, [], 0, 0⟩
def Ent.none : Ent := ⟨0, 0, 0, .none⟩
def Frm.zero (k : Int) : Frm := ⟨k, fun _ => 0, .none, .none, .none, .none⟩
def Frm.set (f : Frm) (i : Nat) (n : Int) : Frm := ⟨f.kind, fun j => if j = i then n else f.nums j, f.op, f.res, f.ent, f.ch⟩
def numsF (k : Int) : List Nat :=
  if k = 1 then [0, 1, 2, 3, 4, 5] else if k = 2 then [1, 2, 3] else if k = 3 then [0, 1, 2, 3, 6] else if k = 4 ∨ k = 12 then [0]
  else if k = 5 then [0, 7, 8, 9] else if k = 6 ∨ k = 9 ∨ k = 10 ∨ k = 11 then [0, 7] else []
def goodN (n : Int) : Prop := 0 ≤ n ∧ n ≤ 1099511627776
instance (n : Int) : Decidable (goodN n) := inferInstanceAs (Decidable (_ ∧ _))
def plainF (f : Frm) : Frm := ⟨f.kind, fun i => if i ∈ numsF f.kind then f.nums i else 0, if f.kind = 1 then f.op else .none, if f.kind = 2 then f.res else .none, if f.kind = 4 then f.ent else .none, if f.kind = 8 then f.ch else .none⟩
def okR (r : Rsl) : Prop := 1 ≤ r.code ∧ r.code ≤ 3 ∧ r.val.length ≤ 64 ∧ goodN r.ver ∧ goodN r.at_
instance (r : Rsl) : Decidable (okR r) := inferInstanceAs (Decidable (_ ∧ _))
def encR (r : Rsl) : List UInt8 := encI r.code ++ (encT r.val ++ (encI r.ver ++ encI r.at_))
def okE (e : Ent) : Prop := chkO e.op = 0 ∧ goodN e.idx ∧ goodN e.cl ∧ goodN e.sq
instance (e : Ent) : Decidable (okE e) := inferInstanceAs (Decidable (_ ∧ _))
def encE (e : Ent) : List UInt8 := encI e.idx ++ (encI e.cl ++ (encI e.sq ++ encO e.op))
def flatF (f : Frm) (l : List Nat) : List UInt8 := l.flatMap fun i => encI (f.nums i)
def headF (f : Frm) : List UInt8 := encI f.kind ++ flatF f (numsF f.kind)
def restF (f : Frm) : List UInt8 := if f.kind = 1 then encO f.op else if f.kind = 2 then encR f.res else if f.kind = 4 then encE f.ent else if f.kind = 8 then encC f.ch else []
def restOk (f : Frm) : Prop := (f.kind = 1 → chkO f.op = 0) ∧ (f.kind = 2 → okR f.res) ∧ (f.kind = 4 → okE f.ent) ∧ (f.kind = 8 → chkC f.ch = 0)
instance (f : Frm) : Decidable (restOk f) := inferInstanceAs (Decidable (_ ∧ _))
def numOk (f : Frm) : Prop := ∀ i ∈ numsF f.kind, goodN (f.nums i)
instance (f : Frm) : Decidable (numOk f) := inferInstanceAs (Decidable (∀ i ∈ _, _))
def encF (f : Frm) : List UInt8 := headF f ++ restF f
def mayF (f : Frm) : Prop := (1 ≤ f.kind ∧ f.kind ≤ 12) ∧ numOk f ∧ restOk f
instance (f : Frm) : Decidable (mayF f) := inferInstanceAs (Decidable (_ ∧ _))
def putF (f : Frm) : List UInt8 × Int := if ¬ mayF f then ([], 2) else if 512 < (encF f).length then ([], 3) else (encF f, 0)

theorem putF_ok {f : Frm} : (putF f).2 = 0 ↔ mayF f ∧ (encF f).length ≤ 512 := by
  unfold putF
  by_cases h : mayF f
  · rw [if_neg (fun h' => h' h)]
    by_cases h2 : 512 < (encF f).length
    · rw [if_pos h2]; simp; intro _; omega
    · rw [if_neg h2]; simp; exact ⟨h, by omega⟩
  · rw [if_pos h]; simp; exact fun h' => absurd h' h
theorem putF_eq {f : Frm} (h : mayF f) (h2 : (encF f).length ≤ 512) : putF f = (encF f, 0) := by
  unfold putF; rw [if_neg (fun hh : ¬ mayF f => hh h), if_neg (by omega)]
theorem putF_cases (f : Frm) : putF f = ([], 2) ∨ putF f = ([], 3) ∨ (putF f = (encF f, 0) ∧ mayF f ∧ (encF f).length ≤ 512) := by
  unfold putF
  by_cases h : mayF f
  · rw [if_neg (fun h' => h' h)]
    by_cases h2 : 512 < (encF f).length
    · rw [if_pos h2]; exact .inr (.inl rfl)
    · rw [if_neg h2]; exact .inr (.inr ⟨rfl, h, by omega⟩)
  · rw [if_pos h]; exact .inl rfl
theorem putF_iff {f : Frm} {s : List UInt8} : putF f = (s, 0) ↔ mayF f ∧ (encF f).length ≤ 512 ∧ s = encF f := by
  constructor
  · intro h
    obtain ⟨h1, h2⟩ := putF_ok.1 (by rw [h])
    rw [putF_eq h1 h2] at h
    exact ⟨h1, h2, (congrArg Prod.fst h).symm⟩
  · rintro ⟨h1, h2, rfl⟩; exact putF_eq h1 h2
/- Plain. -/
theorem plain_kind (f : Frm) : (plainF f).kind = f.kind := rfl
theorem plain_plain (f : Frm) : plainF (plainF f) = plainF f := by
  unfold plainF
  simp only [Frm.mk.injEq, true_and]
  refine ⟨?_, ?_, ?_, ?_, ?_⟩
  · funext i; split <;> simp
  all_goals split <;> simp
theorem flat_congr {f g : Frm} : ∀ {l : List Nat}, (∀ i ∈ l, f.nums i = g.nums i) → flatF f l = flatF g l
  | [], _ => rfl
  | i :: l, h => by
    show encI _ ++ flatF f l = encI _ ++ flatF g l
    rw [h i (List.mem_cons_self ..), flat_congr fun j hj => h j (List.mem_cons_of_mem _ hj)]
theorem plain_nums {f : Frm} {i : Nat} (h : i ∈ numsF f.kind) : (plainF f).nums i = f.nums i := by show (if _ then _ else _ : Int) = _; rw [if_pos h]
theorem plain_enc (f : Frm) : encF (plainF f) = encF f := by
  unfold encF headF
  rw [plain_kind, flat_congr fun i hi => plain_nums hi]
  congr 1
  unfold restF
  rw [plain_kind]
  unfold plainF
  dsimp only
  split
  · rfl
  · split
    · rfl
    · split
      · rfl
      · split <;> rfl
theorem plain_may (f : Frm) : mayF (plainF f) ↔ mayF f := by
  unfold mayF numOk restOk
  rw [plain_kind]
  refine and_congr Iff.rfl (and_congr ?_ ?_)
  · exact forall_congr' fun i => forall_congr' fun hi => by rw [plain_nums hi]
  · unfold plainF; dsimp only
    refine and_congr ?_ (and_congr ?_ (and_congr ?_ ?_)) <;> refine forall_congr' fun h => ?_ <;> rw [if_pos h]
theorem plain_put (f : Frm) : putF (plainF f) = putF f := by
  unfold putF
  rw [plain_enc]
  by_cases h : mayF f
  · rw [if_neg (fun hh : ¬ mayF (plainF f) => hh ((plain_may f).2 h)), if_neg (fun hh : ¬ mayF f => hh h)]
  · rw [if_pos (fun h' => h ((plain_may f).1 h')), if_pos h]
/- What is put stands for one frame alone. -/
theorem flat_inj {f g : Frm} : ∀ {l : List Nat} {r s : List UInt8}, (∀ i ∈ l, goodN (f.nums i)) → (∀ i ∈ l, goodN (g.nums i)) → flatF f l ++ r = flatF g l ++ s → (∀ i ∈ l, f.nums i = g.nums i) ∧ r = s
  | [], _, _, _, _, h => ⟨by simp, h⟩
  | i :: l, r, s, hf, hg, h => by
    have h' : encI (f.nums i) ++ (flatF f l ++ r) = encI (g.nums i) ++ (flatF g l ++ s) := by
      rw [← List.append_assoc, ← List.append_assoc]; exact h
    have h1 := hf i (List.mem_cons_self ..)
    have h2 := hg i (List.mem_cons_self ..)
    unfold goodN at h1 h2
    obtain ⟨e1, e2⟩ := encI_inj (by omega) h1.2 (by omega) h2.2 h'
    obtain ⟨e3, e4⟩ := flat_inj (fun j hj => hf j (List.mem_cons_of_mem _ hj)) (fun j hj => hg j (List.mem_cons_of_mem _ hj)) e2
    refine ⟨fun j hj => ?_, e4⟩
    rcases List.mem_cons.1 hj with rfl | hj
    · exact e1
    · exact e3 j hj
theorem encR_inj {a b : Rsl} {r s : List UInt8} (ha : okR a) (hb : okR b) (h : encR a ++ r = encR b ++ s) : a = b ∧ r = s := by
  obtain ⟨a1, a2, a3, a4, a5⟩ := ha
  obtain ⟨b1, b2, b3, b4, b5⟩ := hb
  unfold goodN at *
  unfold encR at h
  simp only [List.append_assoc] at h
  obtain ⟨e1, h⟩ := encI_inj (by omega) (by omega) (by omega) (by omega) h
  obtain ⟨e2, h⟩ := encT_inj (by omega) (by omega) h
  obtain ⟨e3, h⟩ := encI_inj (by omega) (by omega) (by omega) (by omega) h
  obtain ⟨e4, h⟩ := encI_inj (by omega) (by omega) (by omega) (by omega) h
  cases a; cases b; simp_all
theorem encE_inj {a b : Ent} {r s : List UInt8} (ha : okE a) (hb : okE b) (h : encE a ++ r = encE b ++ s) : a = b ∧ r = s := by
  obtain ⟨a1, a2, a3, a4⟩ := ha
  obtain ⟨b1, b2, b3, b4⟩ := hb
  unfold goodN at *
  unfold encE at h
  simp only [List.append_assoc] at h
  obtain ⟨e1, h⟩ := encI_inj (by omega) (by omega) (by omega) (by omega) h
  obtain ⟨e2, h⟩ := encI_inj (by omega) (by omega) (by omega) (by omega) h
  obtain ⟨e3, h⟩ := encI_inj (by omega) (by omega) (by omega) (by omega) h
  obtain ⟨e4, h⟩ := encO_inj a1 b1 h
  cases a; cases b; simp_all
theorem encF_inj {f g : Frm} {r s : List UInt8} (hf : mayF f) (hg : mayF g) (pf : plainF f = f) (pg : plainF g = g) (h : encF f ++ r = encF g ++ s) : f = g ∧ r = s := by
  obtain ⟨⟨f1, f2⟩, f3, f4⟩ := hf
  obtain ⟨⟨g1, g2⟩, g3, g4⟩ := hg
  unfold encF headF at h
  simp only [List.append_assoc] at h
  obtain ⟨ek, h⟩ := encI_inj (by omega) (by omega) (by omega) (by omega) h
  rw [← ek] at h
  unfold numOk at f3 g3
  rw [← ek] at g3
  obtain ⟨en, h⟩ := flat_inj f3 g3 h
  unfold restF at h
  unfold restOk at f4 g4
  obtain ⟨f5, f6, f7, f8⟩ := f4
  obtain ⟨g5, g6, g7, g8⟩ := g4
  rw [← ek] at h g5 g6 g7 g8
  suffices hh : (f.kind = 1 → f.op = g.op) ∧ (f.kind = 2 → f.res = g.res) ∧ (f.kind = 4 → f.ent = g.ent) ∧ (f.kind = 8 → f.ch = g.ch) ∧ r = s by
    obtain ⟨h1, h2, h3, h4, h5⟩ := hh
    refine ⟨?_, h5⟩
    rw [← pf, ← pg]
    unfold plainF
    rw [← ek]
    simp only [Frm.mk.injEq, true_and]
    refine ⟨?_, ?_, ?_, ?_, ?_⟩
    · funext i; split
      · rename_i hi; exact en i hi
      · rfl
    · split
      · rename_i hi; exact h1 hi
      · rfl
    · split
      · rename_i hi; exact h2 hi
      · rfl
    · split
      · rename_i hi; exact h3 hi
      · rfl
    · split
      · rename_i hi; exact h4 hi
      · rfl
  by_cases k1 : f.kind = 1
  · rw [if_pos k1, if_pos k1] at h
    obtain ⟨e, h⟩ := encO_inj (f5 k1) (g5 k1) h
    exact ⟨fun _ => e, fun _ => by omega, fun _ => by omega, fun _ => by omega, h⟩
  rw [if_neg k1, if_neg k1] at h
  by_cases k2 : f.kind = 2
  · rw [if_pos k2, if_pos k2] at h
    obtain ⟨e, h⟩ := encR_inj (f6 k2) (g6 k2) h
    exact ⟨fun _ => by omega, fun _ => e, fun _ => by omega, fun _ => by omega, h⟩
  rw [if_neg k2, if_neg k2] at h
  by_cases k4 : f.kind = 4
  · rw [if_pos k4, if_pos k4] at h
    obtain ⟨e, h⟩ := encE_inj (f7 k4) (g7 k4) h
    exact ⟨fun _ => by omega, fun _ => by omega, fun _ => e, fun _ => by omega, h⟩
  rw [if_neg k4, if_neg k4] at h
  by_cases k8 : f.kind = 8
  · rw [if_pos k8, if_pos k8] at h
    obtain ⟨e, h⟩ := encC_inj (chkC_ok.1 (f8 k8)) (chkC_ok.1 (g8 k8)) h
    exact ⟨fun _ => by omega, fun _ => by omega, fun _ => by omega, fun _ => e, h⟩
  rw [if_neg k8, if_neg k8] at h
  exact ⟨fun _ => by omega, fun _ => by omega, fun _ => by omega, fun _ => by omega, h⟩
/- Get. -/
open Classical in
noncomputable def getC (s : List UInt8) : Chn × Int := if h : ∃ c, okC c ∧ s = encC c then (h.choose, 0) else (.none, 10)
theorem getC_is (s : List UInt8) : IsC s (getC s) := by
  unfold getC
  split
  · rename_i h; exact .inl ⟨rfl, h.choose_spec.1, h.choose_spec.2⟩
  · rename_i h; exact .inr ⟨rfl, fun c hc hs => h ⟨c, hc, hs⟩⟩
/-- what a reader has: what it read, what is left, whether all was well -/
structure Rdr (α : Type) where
  v : α
  s : List UInt8
  ok : Bool
def Rdr.num (r : Rdr Frm) (i : Nat) : Rdr Frm := ⟨r.v.set i (unN r.s).1, (unN r.s).2.1, r.ok && (unN r.s).2.2⟩
def rdKind (s : List UInt8) : Rdr Frm := ⟨.zero (unN s).1, (unN s).2.1, true && (unN s).2.2⟩
def rdNums (r : Rdr Frm) (l : List Nat) : Rdr Frm := l.foldl Rdr.num r
def rdHead (s : List UInt8) : Rdr Frm := rdNums (rdKind s) (numsF (unN s).1)
def withOp (f : Frm) (o : Opn) : Frm := ⟨f.kind, f.nums, o, f.res, f.ent, f.ch⟩
def withRes (f : Frm) (o : Rsl) : Frm := ⟨f.kind, f.nums, f.op, o, f.ent, f.ch⟩
def withEnt (f : Frm) (o : Ent) : Frm := ⟨f.kind, f.nums, f.op, f.res, o, f.ch⟩
def withCh (f : Frm) (o : Chn) : Frm := ⟨f.kind, f.nums, f.op, f.res, f.ent, o⟩
def u1 (s : List UInt8) : List UInt8 := (unN s).2.1
def rdRes (s : List UInt8) : Rsl := ⟨(unN s).1, (cutN (u1 s)).1, (unN (cutN (u1 s)).2.1).1, (unN (u1 (cutN (u1 s)).2.1)).1⟩
def okRes (s : List UInt8) : Bool := (unN s).2.2 && (cutN (u1 s)).2.2 && (unN (cutN (u1 s)).2.1).2.2 && (unN (u1 (cutN (u1 s)).2.1)).2.2
def rdEnt (s : List UInt8) : Ent := ⟨(unN s).1, (unN (u1 s)).1, (unN (u1 (u1 s))).1, (getO (u1 (u1 (u1 s)))).1⟩
def okEnt (s : List UInt8) : Bool := (unN s).2.2 && (unN (u1 s)).2.2 && (unN (u1 (u1 s))).2.2 && decide ((getO (u1 (u1 (u1 s)))).2 = 0)
noncomputable def rdAll (r : Rdr Frm) : Frm × Bool :=
  if r.v.kind = 1 then (withOp r.v (getO r.s).1, r.ok && decide ((getO r.s).2 = 0))
  else if r.v.kind = 2 then (withRes r.v (rdRes r.s), r.ok && okRes r.s)
  else if r.v.kind = 4 then (withEnt r.v (rdEnt r.s), r.ok && okEnt r.s)
  else if r.v.kind = 8 then (withCh r.v (getC r.s).1, r.ok && decide ((getC r.s).2 = 0))
  else (r.v, r.ok)
noncomputable def frmP (s : List UInt8) : Frm := (rdAll (rdHead s)).1
noncomputable def okP (s : List UInt8) : Bool := (rdAll (rdHead s)).2
noncomputable def getF (s : List UInt8) : Frm × Int := if s.length ≤ 512 ∧ putF (frmP s) = (s, 0) then (frmP s, 0) else (.zero 0, 10)
theorem nums_kind : ∀ (l : List Nat) (r : Rdr Frm), (rdNums r l).v.kind = r.v.kind
  | [], _ => rfl
  | i :: l, r => nums_kind l (r.num i)
theorem nums_in : ∀ (l : List Nat) (r : Rdr Frm), (rdNums r l).v.op = r.v.op ∧ (rdNums r l).v.res = r.v.res ∧ (rdNums r l).v.ent = r.v.ent ∧ (rdNums r l).v.ch = r.v.ch ∧ ∀ i, i ∉ l → (rdNums r l).v.nums i = r.v.nums i
  | [], _ => ⟨rfl, rfl, rfl, rfl, fun _ _ => rfl⟩
  | j :: l, r => by
    obtain ⟨h1, h2, h3, h4, h5⟩ := nums_in l (r.num j)
    refine ⟨h1, h2, h3, h4, fun i hi => ?_⟩
    rw [show rdNums r (j :: l) = rdNums (r.num j) l from rfl, h5 i (fun h => hi (List.mem_cons_of_mem _ h))]
    show (if i = j then _ else _ : Int) = _
    rw [if_neg (fun h => hi (by rw [h]; exact List.mem_cons_self ..))]
theorem frmP_plain (s : List UInt8) : plainF (frmP s) = frmP s := by
  obtain ⟨h1, h2, h3, h4, h5⟩ := nums_in (numsF (unN s).1) (rdKind s)
  have hk : (rdHead s).v.kind = (unN s).1 := nums_kind _ _
  have h6 : ∀ i, i ∉ numsF (unN s).1 → (rdHead s).v.nums i = 0 := fun i hi => h5 i hi
  have h1 : (rdHead s).v.op = .none := h1
  have h2 : (rdHead s).v.res = .none := h2
  have h3 : (rdHead s).v.ent = .none := h3
  have h4 : (rdHead s).v.ch = .none := h4
  unfold frmP rdAll
  rw [hk]
  generalize hr : rdHead s = r at *
  have hn : (fun i => if i ∈ numsF (unN s).1 then r.v.nums i else 0) = r.v.nums := by
    funext i; split
    · rfl
    · rename_i hi; exact (h6 i hi).symm
  have key : ∀ g : Frm, g.kind = (unN s).1 → g.nums = r.v.nums → (g.kind ≠ 1 → g.op = .none) → (g.kind ≠ 2 → g.res = .none) → (g.kind ≠ 4 → g.ent = .none) → (g.kind ≠ 8 → g.ch = .none) → plainF g = g := by
    intro g e0 e1 e2 e3 e4 e5
    obtain ⟨k, nums, o, rs, en, c⟩ := g
    dsimp only at *
    subst e0; subst e1
    unfold plainF
    dsimp only
    rw [hn]
    congr 1
    · split
      · rfl
      · rename_i hh; exact (e2 hh).symm
    · split
      · rfl
      · rename_i hh; exact (e3 hh).symm
    · split
      · rfl
      · rename_i hh; exact (e4 hh).symm
    · split
      · rfl
      · rename_i hh; exact (e5 hh).symm
  split
  · exact key _ hk rfl (fun h => absurd (hk.trans (by assumption)) h) (fun _ => h2) (fun _ => h3) (fun _ => h4)
  · split
    · exact key _ hk rfl (fun _ => h1) (fun h => absurd (hk.trans (by assumption)) h) (fun _ => h3) (fun _ => h4)
    · split
      · exact key _ hk rfl (fun _ => h1) (fun _ => h2) (fun h => absurd (hk.trans (by assumption)) h) (fun _ => h4)
      · split
        · exact key _ hk rfl (fun _ => h1) (fun _ => h2) (fun _ => h3) (fun h => absurd (hk.trans (by assumption)) h)
        · exact key _ hk rfl (fun _ => h1) (fun _ => h2) (fun _ => h3) (fun _ => h4)
/-- reading numbers that were put -/
theorem rd_flat {g : Frm} : ∀ {l : List Nat} {f : Frm} {t : List UInt8}, (∀ i ∈ l, goodN (g.nums i)) → (rdNums ⟨f, flatF g l ++ t, true⟩ l).s = t ∧ (rdNums ⟨f, flatF g l ++ t, true⟩ l).ok = true ∧ (rdNums ⟨f, flatF g l ++ t, true⟩ l).v.kind = f.kind ∧ ∀ i, (rdNums ⟨f, flatF g l ++ t, true⟩ l).v.nums i = if i ∈ l then g.nums i else f.nums i
  | [], f, t, _ => ⟨rfl, rfl, rfl, fun i => by rw [if_neg (by simp)]; rfl⟩
  | j :: l, f, t, h => by
    have hj := h j (List.mem_cons_self ..)
    unfold goodN at hj
    have e : Rdr.num ⟨f, flatF g (j :: l) ++ t, true⟩ j = ⟨f.set j (g.nums j), flatF g l ++ t, true⟩ := by
      unfold Rdr.num
      dsimp only
      rw [show flatF g (j :: l) ++ t = encI (g.nums j) ++ (flatF g l ++ t) by rw [← List.append_assoc]; rfl, un_enc (by omega) (by omega)]
      rfl
    obtain ⟨h1, h2, h3, h4⟩ := rd_flat (l := l) (f := f.set j (g.nums j)) (t := t) (fun i hi => h i (List.mem_cons_of_mem _ hi))
    rw [show rdNums ⟨f, flatF g (j :: l) ++ t, true⟩ (j :: l) = rdNums (Rdr.num ⟨f, flatF g (j :: l) ++ t, true⟩ j) l from rfl, e]
    refine ⟨h1, h2, h3, fun i => ?_⟩
    rw [h4]
    show (if i ∈ l then _ else if i = j then g.nums j else f.nums i) = _
    by_cases hi : i ∈ l
    · rw [if_pos hi, if_pos (List.mem_cons_of_mem _ hi)]
    · rw [if_neg hi]
      by_cases hij : i = j
      · subst hij; rw [if_pos rfl, if_pos (List.mem_cons_self ..)]
      · rw [if_neg hij, if_neg (by simp [hij, hi])]
theorem rd_enc_all {g : Frm} (hm : mayF g) (hp : plainF g = g) : frmP (encF g) = g ∧ okP (encF g) = true := by
  obtain ⟨⟨k1, k2⟩, hn, hr1, hr2, hr4, hr8⟩ := hm
  have eu : unN (encF g) = (g.kind, flatF g (numsF g.kind) ++ restF g, true) := by
    unfold encF headF
    rw [List.append_assoc, un_enc (by omega) (by omega)]
  have eh : rdHead (encF g) = ⟨(rdHead (encF g)).v, restF g, true⟩ ∧ (rdHead (encF g)).v.kind = g.kind ∧ (rdHead (encF g)).v.nums = g.nums := by
    unfold rdHead rdKind
    rw [eu]
    dsimp only
    obtain ⟨h1, h2, h3, h4⟩ := rd_flat (g := g) (l := numsF g.kind) (f := .zero g.kind) (t := restF g) hn
    refine ⟨?_, h3, ?_⟩
    · cases hh : rdNums ⟨Frm.zero g.kind, flatF g (numsF g.kind) ++ restF g, true && true⟩ (numsF g.kind)
      rw [Bool.and_true] at hh
      rw [hh] at h1 h2
      dsimp only at h1 h2
      rw [h1, h2]
    · funext i
      rw [Bool.and_true, h4]
      exact congrFun (congrArg Frm.nums hp) i
  obtain ⟨e1, e2, e3⟩ := eh
  obtain ⟨i1, i2, i3, i4, _⟩ := nums_in (numsF (unN (encF g)).1) (rdKind (encF g))
  have i1 : (rdHead (encF g)).v.op = .none := i1
  have i2 : (rdHead (encF g)).v.res = .none := i2
  have i3 : (rdHead (encF g)).v.ent = .none := i3
  have i4 : (rdHead (encF g)).v.ch = .none := i4
  unfold frmP okP
  rw [e1]
  generalize (rdHead (encF g)).v = v at *
  obtain ⟨vk, vn, vo, vr, ve, vc⟩ := v
  dsimp only at e2 e3 i1 i2 i3 i4
  subst e2; subst e3; subst i1; subst i2; subst i3; subst i4
  have hp1 : g.kind ≠ 1 → g.op = .none := fun h => by rw [← hp]; exact if_neg h
  have hp2 : g.kind ≠ 2 → g.res = .none := fun h => by rw [← hp]; exact if_neg h
  have hp4 : g.kind ≠ 4 → g.ent = .none := fun h => by rw [← hp]; exact if_neg h
  have hp8 : g.kind ≠ 8 → g.ch = .none := fun h => by rw [← hp]; exact if_neg h
  obtain ⟨gk, gn, go, gr, ge, gc⟩ := g
  dsimp only at *
  clear hp e1 eu
  unfold rdAll restF
  dsimp only
  by_cases h1 : gk = 1
  · rw [if_pos h1, if_pos h1]
    rw [hp2 (by omega), hp4 (by omega), hp8 (by omega), getO_put (hr1 h1)]
    exact ⟨rfl, rfl⟩
  rw [if_neg h1, if_neg h1, hp1 h1]
  by_cases h2 : gk = 2
  · rw [if_pos h2, if_pos h2, hp4 (by omega), hp8 (by omega)]
    obtain ⟨r1, r2, r3, r4, r5⟩ := hr2 h2
    unfold goodN at r4 r5
    obtain ⟨c, v, n, a⟩ := gr
    dsimp only at r1 r2 r3 r4 r5
    unfold rdRes okRes u1 encR
    have e4 : unN (encI a) = (a, [], true) := by have := un_enc (n := a) (by omega) (by omega) []; rwa [List.append_nil] at this
    simp only [un_enc (n := c) (by omega) (by omega), cut_enc (t := v) (by omega), un_enc (n := n) (by omega) (by omega), e4]
    exact ⟨rfl, rfl⟩
  rw [if_neg h2, if_neg h2, hp2 h2]
  by_cases h4 : gk = 4
  · rw [if_pos h4, if_pos h4, hp8 (by omega)]
    obtain ⟨r1, r2, r3, r4⟩ := hr4 h4
    unfold goodN at r2 r3 r4
    obtain ⟨i, c, q, o⟩ := ge
    dsimp only at r1 r2 r3 r4
    unfold rdEnt okEnt u1 encE
    simp only [un_enc (n := i) (by omega) (by omega), un_enc (n := c) (by omega) (by omega), un_enc (n := q) (by omega) (by omega), getO_put r1]
    exact ⟨rfl, rfl⟩
  rw [if_neg h4, if_neg h4, hp4 h4]
  by_cases h8 : gk = 8
  · rw [if_pos h8, if_pos h8]
    rw [IsC.put (chkC_ok.1 (hr8 h8)) (getC_is _)]
    exact ⟨rfl, rfl⟩
  rw [if_neg h8, hp8 h8]
  exact ⟨rfl, rfl⟩
theorem okP_of {s : List UInt8} (h : putF (frmP s) = (s, 0)) : okP s = true := by
  obtain ⟨h1, h2, h3⟩ := putF_iff.1 h
  have := (rd_enc_all h1 (frmP_plain s)).2
  rwa [← h3] at this
theorem getF_cases (s : List UInt8) : getF s = (.zero 0, 10) ∨ (getF s = (frmP s, 0) ∧ putF (frmP s) = (s, 0) ∧ plainF (frmP s) = frmP s) := by
  unfold getF
  split
  · rename_i h; exact .inr ⟨rfl, h.2, frmP_plain s⟩
  · exact .inl rfl
theorem getF_put {g : Frm} (hm : mayF g) (hl : (encF g).length ≤ 512) (hp : plainF g = g) : getF (encF g) = (g, 0) := by
  have h1 := (rd_enc_all hm hp).1
  unfold getF
  rw [h1, if_pos ⟨hl, putF_eq hm hl⟩]
theorem getF_no {s : List UInt8} (h : ∀ g, mayF g → plainF g = g → s ≠ encF g) : getF s = (.zero 0, 10) := by
  rcases getF_cases s with h1 | ⟨_, h2, h3⟩
  · exact h1
  · obtain ⟨h4, _, h5⟩ := putF_iff.1 h2
    exact absurd h5 (h _ h4 h3)
theorem getF_cut {f : Frm} (hm : mayF f) {i : Nat} (hi : i < (encF f).length) : getF ((encF f).take i) = (.zero 0, 10) := by
  refine getF_no fun g hg hp h => ?_
  have h2 : encF (plainF f) ++ [] = encF g ++ (encF f).drop i := by rw [plain_enc, List.append_nil, ← h, List.take_append_drop]
  have := (encF_inj ((plain_may f).2 hm) hg (plain_plain f) hp h2).2
  have h3 : ((encF f).drop i).length = 0 := by rw [← this]; rfl
  rw [List.length_drop] at h3
  omega
theorem getF_more {f : Frm} (hm : mayF f) {x : List UInt8} (hx : x ≠ []) : getF (encF f ++ x) = (.zero 0, 10) := by
  refine getF_no fun g hg hp h => ?_
  have h2 : encF (plainF f) ++ x = encF g ++ [] := by rw [plain_enc, List.append_nil, ← h]
  exact hx (encF_inj ((plain_may f).2 hm) hg (plain_plain f) hp h2).2
theorem encF_pos {f : Frm} (h : mayF f) : 1 ≤ (encF f).length := by
  obtain ⟨⟨h1, h2⟩, _⟩ := h
  have := encI_pos (n := f.kind) (by omega) (by omega)
  unfold encF headF
  simp only [List.length_append]
  omega
end Go.Codec
