/- Package client: Call, Tick, what a refusal does: the contracts. -/
import Derived.Test.YtljipmhkpnigkaaKA
namespace Go.Proofs.Ytljipmhkpnigkaa
open Go.Vc Go.Codec

/-- one frame is sent, or none -/
def Snt (o : Option (Int × Frm)) (v : Value) (X : List Atom) : Prop := (o = none ∧ v = .slice none 0 0 ∧ X = []) ∨ (∃ to f g, o = some (to, f) ∧ v = .slice (some ⟨g, 0, none⟩) 1 1 ∧ X = [sndA g to f])
def Clt.after (x : Clt) : Option (Int × Frm) := if x.doing ≠ 0 then none else some (16, .zero 7)
def Clt.refused (c : Cfg) (x : Clt) (r now : Int) : Clt := if r = 2 ∨ r = 10 then x.leave r else if r = 6 then Clt.on c x.doubt r now else Clt.on c x r now
def newCall (x : Clt) (o : Opn) (cl dl : Int) : Frm := ⟨1, fun i => if i = 1 then x.id else if i = 2 then x.call.nums 2 + 1 else if i = 4 then cl else if i = 5 then dl else 0, o, .none, .none, .none⟩
def Clt.begun (x : Clt) (o : Opn) (cl dl : Int) : Clt := ⟨x.id, x.ch, x.tok, none, newCall x o cl dl, x.doing, x.tick, false⟩
def badCall (c : Cfg) (o : Opn) (cl dl : Int) : Prop := chkO o ≠ 0 ∨ cl < 0 ∨ (c.quanta.length : Int) ≤ cl ∨ dl < 0 ∨ 1099511627776 < dl
instance (c : Cfg) (o : Opn) (cl dl : Int) : Decidable (badCall c o cl dl) := inferInstanceAs (Decidable (_ ∨ _))
def Clt.callC (c : Cfg) (x : Clt) (o : Opn) (cl dl now : Int) : Clt × Int × Option (Int × Frm) :=
  if x.doing ≠ 0 then (x, 63, none) else if badCall c o cl dl then (x, 2, none)
  else if 0 < x.ch.epoch then ((x.begun o cl dl).try_ (nearT now), 0, some ((x.begun o cl dl).to, callT (newCall x o cl dl) x.ch.epoch))
  else ((x.begun o cl dl).ask (nearT now), 0, some (16, .zero 7))
def Clt.tickC (c : Cfg) (x : Clt) (now : Int) : Clt × Option (Int × Frm) :=
  if x.doing = 2 ∧ nearT now - x.tick ≥ c.timeout then (Clt.on c x.doubt 0 (nearT now), (Clt.on c x.doubt 0 (nearT now)).after)
  else if x.doing = 1 ∧ nearT now - x.tick ≥ c.timeout ∧ x.call.nums 5 < nearT now then (x.leave 2, (x.leave 2).after)
  else if (x.doing = 1 ∧ nearT now - x.tick ≥ c.timeout) ∨ (x.doing = 3 ∧ x.tick ≤ nearT now) then (x.ask (nearT now), some (16, .zero 7))
  else (x, none)
/-- what always holds of a session -/
structure okK (x : Clt) : Prop where
  tok : x.tok.ok
  t1 : 0 ≤ x.call.nums 3
  t2 : x.call.nums 3 ≤ 1099511627776
  q1 : 0 ≤ x.call.nums 2
  q2 : x.call.nums 2 ≤ 1099511627776
  k1 : 0 ≤ x.tick
  k2 : x.tick ≤ 2199023255552
  ml : x.ch.mem.length ≤ 1000
section
variable {w0 : World} {b : Nat} {c : Cfg} {cp : Option Addr} {cn ck : Nat} {x : Clt} {p : Option Addr} {k bt bs : Nat}
theorem kafter_tk : Tk Try.prog 80 #[.pointer (some ⟨b, 0, none⟩)] (clA b c cp cn ck x p k bt bs) fun e L' => ∃ q n m X, e = .returned (.slice q n m) ∧ Snt x.after (.slice q n m) X ∧ L' = X ++ clA b c cp cn ck x p k bt bs := by
  intro w0 st
  refine kafter_ok _ _ _ ?_
  unfold kafter
  refine ⟨_, st.cell 0 (i := 47) rfl rfl, Br.nei (fun h => ?_) (fun h => ?_)⟩
  · exact ⟨_, ⟨_, _, _, [], rfl, .inl ⟨by unfold Clt.after; rw [if_pos h], rfl, rfl⟩, rfl⟩, st⟩
  · refine (kquestion_ca _).mono ?_
    rintro _ w1 ⟨g, rfl, st1⟩
    exact ⟨_, _, _, rfl, _, ⟨_, _, _, _, rfl, .inr ⟨16, .zero 7, g, by unfold Clt.after; rw [if_neg (by omega)], rfl, rfl⟩, rfl⟩, st.made st1⟩
set_option maxHeartbeats 1000000 in
theorem krefused_tk (hx : okK x) (f : Frm) (pf : Option Addr) (kf : Nat) {now : Int} (hnow : 0 ≤ now ∧ now ≤ 1099511627776) : Tk Try.prog 78 #[.pointer (some ⟨b, 0, none⟩), frmV f pf kf, .int .i64 now] (clA b c cp cn ck x p k bt bs) fun e L' => ∃ q n m X, e = .returned (.slice q n m) ∧ Snt (Clt.refused c x (f.nums 6) now).after (.slice q n m) X ∧ L' = X ++ clA b c cp cn ck (Clt.refused c x (f.nums 6) now) p k bt bs := by
  intro w0 st
  refine krefused_ok _ _ _ _ _ _ _ _ _ _ _ _ _ _ _ _ _ _ _ _ _ _ _ _ _ _ _ _ _ _ _ _ _ _ _ ?_
  unfold krefused
  refine St.alloc st ?_; clear st; intro bf w st
  have hleave : ∀ w, Clt.refused c x (f.nums 6) now = x.leave (f.nums 6) → St (feet (clA b c cp cn ck x p k bt bs)) w0 w (.blk bf 53 (frmL f pf kf) :: clA b c cp cn ck x p k bt bs) → ∀ R : Ending → World → Prop, (∀ w, St (feet (clA b c cp cn ck x p k bt bs)) w0 w (clA b c cp cn ck (Clt.refused c x (f.nums 6) now) p k bt bs) → R (.returned (.tuple #[])) w) → Ca Try.prog 81 #[.pointer (some ⟨b, 0, none⟩), .int .i64 (f.nums 6)] w R := by
    intro w e st R hR
    refine Tk.go (L1 := clA b c cp cn ck x p k bt bs) (L2 := []) (kleave_tk (f.nums 6)) st.tail ?_
    rintro _ _ w ⟨rfl, rfl⟩ st
    rw [List.append_nil] at st
    exact hR w (by rw [e]; exact st)
  have hon : ∀ w, Clt.refused c x (f.nums 6) now = Clt.on c x (f.nums 6) now → St (feet (clA b c cp cn ck x p k bt bs)) w0 w (.blk bf 53 (frmL f pf kf) :: clA b c cp cn ck x p k bt bs) → ∀ R : Ending → World → Prop, (∀ w, St (feet (clA b c cp cn ck x p k bt bs)) w0 w (clA b c cp cn ck (Clt.refused c x (f.nums 6) now) p k bt bs) → R (.returned (.tuple #[])) w) → Ca Try.prog 79 #[.pointer (some ⟨b, 0, none⟩), .int .i64 (f.nums 6), .int .i64 now] w R := by
    intro w e st R hR
    refine Tk.go (L1 := clA b c cp cn ck x p k bt bs) (L2 := []) (kon_tk hx.tok ⟨hx.t1, hx.t2⟩ (f.nums 6) hnow) st.tail ?_
    rintro _ _ w ⟨rfl, rfl⟩ st
    rw [List.append_nil] at st
    exact hR w (by rw [e]; exact st)
  have hdoubt : ∀ w, Clt.refused c x (f.nums 6) now = Clt.on c x.doubt (f.nums 6) now → St (feet (clA b c cp cn ck x p k bt bs)) w0 w (.blk bf 53 (frmL f pf kf) :: clA b c cp cn ck x.doubt p k bt bs) → ∀ R : Ending → World → Prop, (∀ w, St (feet (clA b c cp cn ck x p k bt bs)) w0 w (clA b c cp cn ck (Clt.refused c x (f.nums 6) now) p k bt bs) → R (.returned (.tuple #[])) w) → Ca Try.prog 79 #[.pointer (some ⟨b, 0, none⟩), .int .i64 (f.nums 6), .int .i64 now] w R := by
    intro w e st R hR
    refine Tk.go (L1 := clA b c cp cn ck x.doubt p k bt bs) (L2 := []) (kon_tk (x := x.doubt) hx.tok ⟨hx.t1, hx.t2⟩ (f.nums 6) hnow) st.tail ?_
    rintro _ _ w ⟨rfl, rfl⟩ st
    rw [List.append_nil] at st
    exact hR w (by rw [e]; exact st)
  have hend : ∀ w, St (feet (clA b c cp cn ck x p k bt bs)) w0 w (clA b c cp cn ck (Clt.refused c x (f.nums 6) now) p k bt bs) → ∀ R : Ending → World → Prop, (∀ q n m w X, Snt (Clt.refused c x (f.nums 6) now).after (.slice q n m) X → St (feet (clA b c cp cn ck x p k bt bs)) w0 w (X ++ clA b c cp cn ck (Clt.refused c x (f.nums 6) now) p k bt bs) → R (.returned (.slice q n m)) w) → Ca Try.prog 80 #[.pointer (some ⟨b, 0, none⟩)] w R := by
    intro w st R hR
    refine Tk.go (L1 := clA b c cp cn ck (Clt.refused c x (f.nums 6) now) p k bt bs) (L2 := []) kafter_tk (by rw [List.append_nil]; exact st) ?_
    rintro _ _ w ⟨q, n, m, X, rfl, hX, rfl⟩ st
    rw [List.append_nil] at st
    exact hR q n m w X hX st
  refine ⟨_, st.cell 0 (i := 15) rfl rfl, Br.eqi (fun h1 => Br.eqi (fun _ => ?_) (fun hh => absurd h1 hh)) (fun h1 => Br.eqi (fun h2 => ?_) (fun h2 => Br.eqi (fun h3 => ?_) (fun h3 => ?_)))⟩
  · refine ⟨_, st.cell 0 (i := 15) rfl rfl, hleave _ (by unfold Clt.refused; rw [if_pos (.inl h1)]) st _ fun w st => ⟨rfl, hend w st _ fun q n m w X hX st => ⟨_, _, _, rfl, _, ⟨q, n, m, X, rfl, hX, rfl⟩, st⟩⟩⟩
  · refine ⟨_, st.cell 0 (i := 15) rfl rfl, hleave _ (by unfold Clt.refused; rw [if_pos (.inr h2)]) st _ fun w st => ⟨rfl, hend w st _ fun q n m w X hX st => ⟨_, _, _, rfl, _, ⟨q, n, m, X, rfl, hX, rfl⟩, st⟩⟩⟩
  · refine ⟨st.wr 1 (i := 49) rfl rfl, ?_⟩
    refine St.store st 1 rfl ?_; clear st; intro w st
    refine ⟨_, st.cell 0 (i := 15) rfl rfl, hdoubt _ (by unfold Clt.refused; rw [if_neg (by omega), if_pos h3]) st _ fun w st => ⟨rfl, hend w st _ fun q n m w X hX st => ⟨_, _, _, rfl, _, ⟨q, n, m, X, rfl, hX, rfl⟩, st⟩⟩⟩
  · refine ⟨_, st.cell 0 (i := 15) rfl rfl, hon _ (by unfold Clt.refused; rw [if_neg (by omega), if_neg h3]) st _ fun w st => ⟨rfl, hend w st _ fun q n m w X hX st => ⟨_, _, _, rfl, _, ⟨q, n, m, X, rfl, hX, rfl⟩, st⟩⟩⟩
set_option maxRecDepth 100000 in
set_option maxHeartbeats 2000000 in
theorem kcall_tk (hx : okK x) (hcn : cn = c.quanta.length) (o : Opn) (cl dl now : Int) : Tk Try.prog 38 #[.pointer (some ⟨b, 0, none⟩), opV o, .int .i64 cl, .int .i64 dl, .int .i64 now] (clA b c cp cn ck x p k bt bs) fun e L' => ∃ q n m X bs', e = .returned (.tuple #[.slice q n m, .int .i64 (Clt.callC c x o cl dl now).2.1]) ∧ Snt (Clt.callC c x o cl dl now).2.2 (.slice q n m) X ∧ L' = X ++ clA b c cp cn ck (Clt.callC c x o cl dl now).1 p k bt bs' := by
  intro w0 st
  subst hcn
  have hq1 := hx.q1; have hq2 := hx.q2
  refine kcall_ok _ _ _ _ _ _ _ _ _ _ ?_
  unfold kcall
  refine St.alloc st ?_; clear st; intro bo w st
  refine Pw.go (knone_pw (st.hold 1 _ rfl)) st ?_; clear st; intro w st
  have hbad : ∀ {w} (_ : St (feet (clA b c cp c.quanta.length ck x p k bt bs)) w0 w (.blk bo 47 [.int .i64 o.kind, .string (mk o.key), .string (mk o.val), .int .i64 o.ver] :: clA b c cp c.quanta.length ck x p k bt bs)) {n : Int}, Clt.callC c x o cl dl now = (x, n, none) → ∃ L', (∃ q n' m X bs', Ending.returned (.tuple #[.slice none 0 0, .int .i64 n]) = .returned (.tuple #[.slice q n' m, .int .i64 (Clt.callC c x o cl dl now).2.1]) ∧ Snt (Clt.callC c x o cl dl now).2.2 (.slice q n' m) X ∧ L' = X ++ clA b c cp c.quanta.length ck (Clt.callC c x o cl dl now).1 p k bt bs') ∧ St (feet (clA b c cp c.quanta.length ck x p k bt bs)) w0 w L' := by
    intro w st n e
    rw [e]
    exact ⟨_, ⟨_, _, _, [], bs, rfl, .inl ⟨rfl, rfl, rfl⟩, rfl⟩, st.tail⟩
  refine ⟨_, rfl, Br.nay rfl ⟨_, st.cell 1 (i := 47) rfl rfl, Br.nei (fun h1 => ?_) (fun h1 => ?_)⟩⟩
  · exact hbad st (by unfold Clt.callC; rw [if_pos h1])
  have hb2 : badCall c o cl dl → Clt.callC c x o cl dl now = (x, 2, none) := fun hb => by unfold Clt.callC; rw [if_neg (by omega), if_pos hb]
  refine ⟨_, _, _, _, st.rowAt 0 rfl rfl, ?_⟩
  refine Pu.go (ocheck_pu o) st ?_; clear st; intro w st
  refine ⟨_, rfl, Br.nei (fun h2 => hbad st (hb2 (.inl h2))) (fun h2 => ?_)⟩
  refine Br.dec (fun h3 => hbad st (hb2 (.inr (.inl h3)))) (fun h3 => ?_)
  refine ⟨_, _, _, st.cell 1 (i := 3) rfl rfl, Br.dec (fun h4 => hbad st (hb2 (.inr (.inr (.inl h4))))) (fun h4 => ?_)⟩
  refine Br.dec (fun h5 => hbad st (hb2 (.inr (.inr (.inr (.inl h5)))))) (fun h5 => ?_)
  refine Br.dec (fun h6 => hbad st (hb2 (.inr (.inr (.inr (.inr h6)))))) (fun h6 => ?_)
  have hgood : ¬ badCall c o cl dl := by unfold badCall; omega
  refine ⟨_, st.cell 1 (i := 12) rfl rfl, _, st.cell 1 (i := 21) rfl rfl, LetI.id (by omega) (by omega) ⟨_, _, _, _, st.rowAt 0 rfl rfl, st.wrRow 1 rfl rfl rfl, ?_⟩⟩
  refine St.storeRow st 1 rfl ?_; clear st; intro w st
  replace st : St (feet (clA b c cp c.quanta.length ck x p k bt bs)) w0 w (.blk bo 47 [.int .i64 o.kind, .string (mk o.key), .string (mk o.val), .int .i64 o.ver] :: clA b c cp c.quanta.length ck ⟨x.id, x.ch, x.tok, x.slot, newCall x o cl dl, x.doing, x.tick, x.unsure⟩ p k bt bs) := by
    rw [setsL_eq] at st
    · exact st
    · show 18 + 29 ≤ 50; omega
  refine snew_go st ?_
  clear st
  intro bn w st
  refine ⟨_, rfl, st.wr 2 (i := 49) rfl rfl, ?_⟩
  refine St.store st 2 rfl ?_; clear st; intro w st
  refine ⟨st.wr 2 (i := 17) rfl rfl, ?_⟩
  refine St.store st 2 rfl ?_; clear st; intro w st
  replace st : St (feet (clA b c cp c.quanta.length ck x p k bt bs)) w0 w [sltA bn none, .blk bo 47 [.int .i64 o.kind, .string (mk o.key), .string (mk o.val), .int .i64 o.ver], cltB b c cp c.quanta.length ck (x.begun o cl dl) p k bt bn, tokA bt x.tok, sltA bs x.slot, memR x.ch.mem p k] := st
  refine ⟨_, st.cell 2 (i := 13) rfl rfl, Br.dec (fun h7 => ?_) (fun h7 => ?_)⟩
  · have e : Clt.callC c x o cl dl now = ((x.begun o cl dl).try_ (nearT now), 0, some ((x.begun o cl dl).to, callT (newCall x o cl dl) x.ch.epoch)) := by unfold Clt.callC; rw [if_neg (by omega), if_neg hgood, if_pos (show 0 < x.ch.epoch from h7)]
    refine Pu.go (knear_pu now) st ?_; clear st; intro w st
    refine ⟨_, rfl, ?_⟩
    refine Tk.go (L1 := clA b c cp c.quanta.length ck (x.begun o cl dl) p k bt bn) (L2 := []) (ktry_tk (x := x.begun o cl dl) ⟨by show (0 : Int) ≤ 0; omega, by show (0 : Int) ≤ _; omega⟩ hx.ml (nearT now)) (st.pick [2, 3, 0, 5] rfl (by decide)) ?_
    clear st
    rintro _ _ w ⟨g, rfl, rfl⟩ st
    rw [e]
    exact ⟨_, _, _, rfl, _, ⟨_, _, _, [sndA g (x.begun o cl dl).to (callT (newCall x o cl dl) x.ch.epoch)], bn, rfl, .inr ⟨_, _, g, rfl, rfl, rfl⟩, rfl⟩, st⟩
  · have e : Clt.callC c x o cl dl now = ((x.begun o cl dl).ask (nearT now), 0, some (16, .zero 7)) := by unfold Clt.callC; rw [if_neg (by omega), if_neg hgood, if_neg (show ¬ 0 < x.ch.epoch from h7)]
    refine Pu.go (knear_pu now) st ?_; clear st; intro w st
    refine ⟨_, rfl, ?_⟩
    refine Tk.go (L1 := clA b c cp c.quanta.length ck (x.begun o cl dl) p k bt bn) (L2 := []) (kask_tk (x := x.begun o cl dl) (nearT now)) (st.pick [2, 3, 0, 5] rfl (by decide)) ?_
    clear st
    rintro _ _ w ⟨g, rfl, rfl⟩ st
    rw [e]
    exact ⟨_, _, _, rfl, _, ⟨_, _, _, [sndA g 16 (.zero 7)], bn, rfl, .inr ⟨_, _, g, rfl, rfl, rfl⟩, rfl⟩, st⟩
end
end Go.Proofs.Ytljipmhkpnigkaa
