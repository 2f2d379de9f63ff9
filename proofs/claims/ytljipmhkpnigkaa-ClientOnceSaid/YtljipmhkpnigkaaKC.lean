/- Package client: Tick, Take, New, what it tells: the contracts. -/
import Derived.Test.YtljipmhkpnigkaaKB
import Derived.Test.YtljipmhkpnigkaaDK5
import Derived.Test.YtljipmhkpnigkaaU2
namespace Go.Proofs.Ytljipmhkpnigkaa
open Go.Vc Go.Codec

def Clt.known (x : Clt) (d : Chn) : Clt := ⟨x.id, d, x.tok, x.slot, x.call, x.doing, x.tick, x.unsure⟩
def Clt.takeC (c : Cfg) (x : Clt) (f : Frm) (now : Int) : Clt × Option (Int × Frm) :=
  if f.kind = 8 ∧ chkC f.ch = 0 ∧ x.ch.epoch ≤ f.ch.epoch then
    (if x.doing = 1 then ((x.known f.ch).try_ (nearT now), some ((x.known f.ch).to, callT x.call f.ch.epoch)) else (x.known f.ch, none))
  else if f.kind = 2 ∧ f.nums 1 = x.id ∧ f.nums 2 = x.call.nums 2 ∧ x.doing ≠ 0 then (x.endO ⟨1, 0, f.res.code, f.res.val, f.res.ver, f.res.at_⟩, none)
  else if f.kind = 3 ∧ f.nums 1 = x.id ∧ f.nums 2 = x.call.nums 2 ∧ x.doing = 2 ∧ f.nums 3 = x.call.nums 3 then (Clt.refused c x (f.nums 6) (nearT now), (Clt.refused c x (f.nums 6) (nearT now)).after)
  else (x, none)
section
variable {w0 : World} {b : Nat} {c : Cfg} {cp : Option Addr} {cn ck : Nat} {x : Clt} {p : Option Addr} {k bt bs : Nat}
theorem kbusy_pw (hB : (cltB b c cp cn ck x p k bt bs).p w0) : Pw Try.prog 42 #[.pointer (some ⟨b, 0, none⟩)] (.bool (x.doing != 0)) w0 := by
  have st : St No w0 w0 [] := St.start w0
  refine kbusy_ok _ _ _ ?_
  unfold kbusy
  refine Pw.go (knone_pw hB) st ?_; clear st; intro w st
  exact ⟨_, rfl, Br.sure rfl ⟨_, Blk.at_ (Atom.stable _ st.kp (fun _ _ h => h) hB) rfl, rfl, st.kp⟩⟩
theorem kseq_pw (hB : (cltB b c cp cn ck x p k bt bs).p w0) : Pw Try.prog 43 #[.pointer (some ⟨b, 0, none⟩)] (.int .i64 (x.call.nums 2)) w0 := by
  have st : St No w0 w0 [] := St.start w0
  refine kseq_ok _ _ _ ?_
  unfold kseq
  refine Pw.go (knone_pw hB) st ?_; clear st; intro w st
  exact ⟨_, rfl, Br.nay rfl ⟨_, Blk.at_ (Atom.stable _ st.kp (fun _ _ h => h) hB) rfl, rfl, st.kp⟩⟩
theorem ktries_pw (hB : (cltB b c cp cn ck x p k bt bs).p w0) : Pw Try.prog 44 #[.pointer (some ⟨b, 0, none⟩)] (.int .i64 (x.call.nums 3)) w0 := by
  have st : St No w0 w0 [] := St.start w0
  refine ktries_ok _ _ _ ?_
  unfold ktries
  refine Pw.go (knone_pw hB) st ?_; clear st; intro w st
  exact ⟨_, rfl, Br.nay rfl ⟨_, Blk.at_ (Atom.stable _ st.kp (fun _ _ h => h) hB) rfl, rfl, st.kp⟩⟩
theorem koutcome_tk : Tk Try.prog 39 #[.pointer (some ⟨b, 0, none⟩)] (clA b c cp cn ck x p k bt bs) fun e L' => e = .returned (.tuple #[outV (getS x.slot), .bool x.slot.isSome]) ∧ L' = clA b c cp cn ck x p k bt bs := by
  intro w0 st
  refine koutcome_ok _ _ _ ?_
  unfold koutcome
  refine St.alloc st ?_; clear st; intro bo w st
  refine Pw.go (knone_pw (st.hold 1 _ rfl)) st ?_; clear st; intro w st
  refine ⟨_, rfl, Br.nay rfl ⟨_, st.cell 1 (i := 17) rfl rfl, ?_⟩⟩
  refine Tu.go (sget_tu bs x.slot) st 3 rfl (fun _ hg => hg) ?_; clear st; intro w st
  refine ⟨_, _, _, _, _, _, _, rfl, st.wrRow 0 rfl rfl rfl, ?_⟩
  refine St.storeRow st 0 rfl ?_; clear st; intro w st
  replace st : St (feet (clA b c cp cn ck x p k bt bs)) w0 w (.blk bo 80 (outE (getS x.slot)) :: clA b c cp cn ck x p k bt bs) := st
  refine ⟨_, _, _, _, _, _, st.rowAt 0 rfl rfl, ?_⟩
  exact ⟨_, ⟨rfl, rfl⟩, st.tail⟩
set_option maxRecDepth 100000 in
set_option maxHeartbeats 4000000 in
theorem ktick_tk (hx : okK x) (hc : 0 ≤ c.timeout ∧ c.timeout ≤ 1000) (now : Int) : Tk Try.prog 41 #[.pointer (some ⟨b, 0, none⟩), .int .i64 now] (clA b c cp cn ck x p k bt bs) fun e L' => ∃ q n m X, e = .returned (.slice q n m) ∧ Snt (Clt.tickC c x now).2 (.slice q n m) X ∧ L' = X ++ clA b c cp cn ck (Clt.tickC c x now).1 p k bt bs := by
  intro w0 st
  have h1 := hx.k1; have h2 := hx.k2; have hnt := nearT_in now
  refine ktick_ok _ _ _ _ ?_
  unfold ktick
  refine Pw.go (knone_pw (st.hold 0 _ rfl)) st ?_; clear st; intro w st
  refine ⟨_, rfl, Br.nay rfl ?_⟩
  refine Pu.go (knear_pu now) st ?_; clear st; intro w st
  refine ⟨_, rfl, _, st.cell 0 (i := 48) rfl rfl, LetI.id (by omega) (by omega) ⟨_, st.cell 0 (i := 9) rfl rfl, _, st.cell 0 (i := 47) rfl rfl, ?_⟩⟩
  have hnil : Clt.tickC c x now = (x, none) → ∃ L', (∃ q n m X, Ending.returned (.slice none 0 0) = .returned (.slice q n m) ∧ Snt (Clt.tickC c x now).2 (.slice q n m) X ∧ L' = X ++ clA b c cp cn ck (Clt.tickC c x now).1 p k bt bs) ∧ St (feet (clA b c cp cn ck x p k bt bs)) w0 w L' := by
    intro e
    rw [e]
    exact ⟨_, ⟨_, _, _, [], rfl, .inl ⟨rfl, rfl, rfl⟩, rfl⟩, st⟩
  have hask : Clt.tickC c x now = (x.ask (nearT now), some (16, .zero 7)) → Ca Try.prog 75 #[.pointer (some ⟨b, 0, none⟩), .int .i64 (nearT now)] w fun e w' => ∃ (q : Option Addr) (n m : Nat), e = .returned (.slice q n m) ∧ ∃ L', (∃ q' n' m' X, Ending.returned (.slice q n m) = .returned (.slice q' n' m') ∧ Snt (Clt.tickC c x now).2 (.slice q' n' m') X ∧ L' = X ++ clA b c cp cn ck (Clt.tickC c x now).1 p k bt bs) ∧ St (feet (clA b c cp cn ck x p k bt bs)) w0 w' L' := by
    intro e
    rw [e]
    refine Tk.go (L1 := clA b c cp cn ck x p k bt bs) (L2 := []) (kask_tk (nearT now)) (by rw [List.append_nil]; exact st) ?_
    rintro _ _ w ⟨g, rfl, rfl⟩ st
    rw [List.append_nil] at st
    exact ⟨_, _, _, rfl, _, ⟨_, _, _, [sndA g 16 (.zero 7)], rfl, .inr ⟨_, _, g, rfl, rfl, rfl⟩, rfl⟩, st⟩
  have haft : ∀ (y : Clt) (w : World), Clt.tickC c x now = (y, y.after) → St (feet (clA b c cp cn ck x p k bt bs)) w0 w (clA b c cp cn ck y p k bt bs) → Ca Try.prog 80 #[.pointer (some ⟨b, 0, none⟩)] w fun e w' => ∃ (q : Option Addr) (n m : Nat), e = .returned (.slice q n m) ∧ ∃ L', (∃ q' n' m' X, Ending.returned (.slice q n m) = .returned (.slice q' n' m') ∧ Snt (Clt.tickC c x now).2 (.slice q' n' m') X ∧ L' = X ++ clA b c cp cn ck (Clt.tickC c x now).1 p k bt bs) ∧ St (feet (clA b c cp cn ck x p k bt bs)) w0 w' L' := by
    intro y w e st
    rw [e]
    refine Tk.go (L1 := clA b c cp cn ck y p k bt bs) (L2 := []) kafter_tk (by rw [List.append_nil]; exact st) ?_
    rintro _ _ w ⟨q, n, m, X, rfl, hX, rfl⟩ st
    rw [List.append_nil] at st
    exact ⟨q, n, m, rfl, _, ⟨q, n, m, X, rfl, hX, rfl⟩, st⟩
  repeat' first
    | refine Br.eqi (fun _ => ?_) (fun _ => ?_)
    | refine Br.dec (fun _ => ?_) (fun _ => ?_)
    | (with_reducible apply ex1c; case h => first | exact St.cell st 0 rfl rfl | fail)
    | fail
  all_goals first
    | (exfalso; omega)
    | exact hnil (by unfold Clt.tickC; rw [if_neg (by omega), if_neg (by omega), if_neg (by omega)])
    | exact hask (by unfold Clt.tickC; rw [if_neg (by omega), if_neg (by omega), if_pos (by omega)])
    | (have e : Clt.tickC c x now = (x.leave 2, (x.leave 2).after) := by unfold Clt.tickC; rw [if_neg (by omega), if_pos (by omega)]
       refine Tk.go (L1 := clA b c cp cn ck x p k bt bs) (L2 := []) (kleave_tk 2) (by rw [List.append_nil]; exact st) ?_
       rintro _ _ w ⟨rfl, rfl⟩ st
       rw [List.append_nil] at st
       exact ⟨rfl, haft _ w e st⟩)
    | (have e : Clt.tickC c x now = (Clt.on c x.doubt 0 (nearT now), (Clt.on c x.doubt 0 (nearT now)).after) := by unfold Clt.tickC; rw [if_pos (by omega)]
       refine ⟨st.wr 0 (i := 49) rfl rfl, ?_⟩
       refine St.store st 0 rfl ?_; clear st; intro w st
       refine Tk.go (L1 := clA b c cp cn ck x.doubt p k bt bs) (L2 := []) (kon_tk (x := x.doubt) hx.tok ⟨hx.t1, hx.t2⟩ 0 hnt) (by rw [List.append_nil]; exact st) ?_
       rintro _ _ w ⟨rfl, rfl⟩ st
       rw [List.append_nil] at st
       exact ⟨rfl, haft _ w e st⟩)
end
end Go.Proofs.Ytljipmhkpnigkaa
