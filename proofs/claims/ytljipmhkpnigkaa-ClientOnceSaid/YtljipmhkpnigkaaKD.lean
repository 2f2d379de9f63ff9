/- Package client: Take: the contract. -/
import Derived.Test.YtljipmhkpnigkaaKC
namespace Go.Proofs.Ytljipmhkpnigkaa
open Go.Vc Go.Codec

section
variable {w0 : World} {b : Nat} {c : Cfg} {cp : Option Addr} {cn ck : Nat} {x : Clt} {p : Option Addr} {k bt bs : Nat}
set_option maxRecDepth 100000 in
set_option maxHeartbeats 16000000 in
theorem ktake_ca (hx : okK x) {f : Frm} {pf : Option Addr} {kf : Nat} (hl : f.ch.mem.length ≤ 1000) (now : Int) {wi : World} (hM : MemAt wi pf f.ch.mem) (hpf : ∀ a, pf = some a → ¬ (feet (clA b c cp cn ck x p k bt bs)) a.block) (st0 : St (feet (clA b c cp cn ck x p k bt bs)) wi wi (clA b c cp cn ck x p k bt bs)) : Ca Try.prog 40 #[.pointer (some ⟨b, 0, none⟩), frmV f pf kf, .int .i64 now] wi fun e w' => ∃ L', (∃ q n m X p2 k2, e = .returned (.slice q n m) ∧ Snt (Clt.takeC c x f now).2 (.slice q n m) X ∧ L' = X ++ clA b c cp cn ck (Clt.takeC c x f now).1 p2 k2 bt bs) ∧ St (feet (clA b c cp cn ck x p k bt bs)) wi w' L' := by
  have st := st0
  have hnt := nearT_in now
  obtain ⟨i0, hi0, hz0, hs0, hb0⟩ := info_at infoMem
  refine ktake_ok _ _ _ _ _ _ _ _ _ _ _ _ _ _ _ _ _ _ _ _ _ _ _ _ _ _ _ _ _ _ _ _ _ _ _ ?_
  unfold ktake
  refine St.alloc st ?_; clear st; intro bf w st
  refine Pw.go (knone_pw (st.hold 1 _ rfl)) st ?_; clear st; intro w st
  refine ⟨_, rfl, Br.nay rfl ?_⟩
  refine ⟨fun v w' => v = [.int .i64 (nearT now)] ∧ St (feet (clA b c cp cn ck x p k bt bs)) wi w' (.blk bf 53 (frmL f pf kf) :: clA b c cp cn ck x p k bt bs), ?_, ?_⟩
  · refine Pu.go (knear_pu now) st ?_; clear st; intro w st
    exact ⟨_, rfl, rfl, st⟩
  clear st
  rintro nn w ⟨hv, st⟩
  obtain rfl : nn = nearT now := by simpa using hv
  clear hv
  have hnil : Clt.takeC c x f now = (x, none) → ∀ w, St (feet (clA b c cp cn ck x p k bt bs)) wi w (.blk bf 53 (frmL f pf kf) :: clA b c cp cn ck x p k bt bs) → ∃ L', (∃ q n m X p2 k2, Ending.returned (.slice none 0 0) = .returned (.slice q n m) ∧ Snt (Clt.takeC c x f now).2 (.slice q n m) X ∧ L' = X ++ clA b c cp cn ck (Clt.takeC c x f now).1 p2 k2 bt bs) ∧ St (feet (clA b c cp cn ck x p k bt bs)) wi w L' := by
    intro e w st
    rw [e]
    exact ⟨_, ⟨_, _, _, [], p, k, rfl, .inl ⟨rfl, rfl, rfl⟩, rfl⟩, st.tail⟩
  repeat' first
    | (with_reducible apply ex1c; case h => first | exact St.cell st 0 rfl rfl | exact St.cell st 1 rfl rfl | fail)
    | with_reducible refine Br.eqi (fun _ => ?_) (fun _ => ?_)
    | with_reducible refine Br.nei (fun _ => ?_) (fun _ => ?_)
    | with_reducible refine Br.dec (fun _ => ?_) (fun _ => ?_)
    | (refine ⟨_, _, _, _, _, st.rowAt 0 rfl rfl, ?_⟩; refine Pw.go (ccheck_pw (c := f.ch) (hM.kp st.kp hpf) rfl) st ?_; clear st; intro w st; refine ⟨_, rfl, ?_⟩)
    | fail
  all_goals first
    | (exfalso; omega)
    | exact hnil (by unfold Clt.takeC; rw [if_neg (by omega), if_neg (by omega), if_neg (by omega)]) _ st
    | (have e : Clt.takeC c x f now = (x.endO ⟨1, 0, f.res.code, f.res.val, f.res.ver, f.res.at_⟩, none) := by unfold Clt.takeC; rw [if_neg (by omega), if_pos (by omega)]
       refine ⟨_, _, _, _, st.rowAt 0 rfl rfl, ?_⟩
       refine Tk.go (L1 := clA b c cp cn ck x p k bt bs) (L2 := []) (kend_tk ⟨1, 0, f.res.code, f.res.val, f.res.ver, f.res.at_⟩) (by rw [List.append_nil]; exact st.tail) ?_
       clear st
       rintro _ _ w ⟨rfl, rfl⟩ st
       rw [List.append_nil] at st
       rw [e]
       exact ⟨rfl, _, ⟨_, _, _, [], p, k, rfl, .inl ⟨rfl, rfl, rfl⟩, rfl⟩, st⟩)
    | (have e : Clt.takeC c x f now = (Clt.refused c x (f.nums 6) (nearT now), (Clt.refused c x (f.nums 6) (nearT now)).after) := by unfold Clt.takeC; rw [if_neg (by omega), if_neg (by omega), if_pos (by omega)]
       refine ⟨_, _, _, _, _, _, _, _, _, _, _, _, _, _, _, _, _, _, _, _, _, _, _, _, _, _, _, _, _, _, _, st.rowAt 0 rfl rfl, ?_⟩
       refine Tk.go (L1 := clA b c cp cn ck x p k bt bs) (L2 := []) (krefused_tk hx f pf kf hnt) (by rw [List.append_nil]; exact st.tail) ?_
       clear st
       rintro _ _ w ⟨q, n, m, X, rfl, hX, rfl⟩ st
       rw [List.append_nil] at st
       rw [e]
       exact ⟨_, _, _, rfl, _, ⟨q, n, m, X, p, k, rfl, hX, rfl⟩, st⟩)
    | (refine ⟨_, _, _, _, _, st.rowAt 0 rfl rfl, st.wrRow 1 rfl rfl rfl, ?_⟩
       refine St.storeRow st 1 rfl ?_; clear st; intro w st
       replace st : St (feet (clA b c cp cn ck x p k bt bs)) wi w (.blk bf 53 (frmL f pf kf) :: [.blk b 88 (cltL c cp cn ck (x.known f.ch) pf kf bt bs), tokA bt x.tok, sltA bs x.slot, memR x.ch.mem p k]) := st
       refine ⟨_, _, _, st.cell 0 rfl rfl, ?_⟩
       refine St.appendAny0 ((st.nil0 64 2)) 0 (xs := []) (l := f.ch.mem) Try.underlying30 hi0 hz0 hs0 hb0 rfl (by decide) memE_len memE_plain rfl (hM.kp st.kp hpf) rfl (by simp [maxLen]; omega) (by omega) ?_
       clear st
       intro p' k' w st
       simp only [List.set, List.nil_append, Nat.zero_add] at st
       refine ⟨_, _, _, rfl, st.wr 2 (i := 14) rfl rfl, ?_⟩
       refine St.store st 2 rfl ?_; clear st; intro w st
       replace st : St (feet (clA b c cp cn ck x p k bt bs)) wi w (memR f.ch.mem p' k' :: .blk bf 53 (frmL f pf kf) :: [cltB b c cp cn ck (x.known f.ch) p' k' bt bs, tokA bt x.tok, sltA bs x.slot, memR x.ch.mem p k]) := by
         simp only [Nat.zero_add] at st
         exact st
       refine ⟨_, st.cell 2 (i := 47) rfl rfl, Br.eqi (fun h9 => ?_) (fun h9 => ?_)⟩
       · have e : Clt.takeC c x f now = ((x.known f.ch).try_ (nearT now), some ((x.known f.ch).to, callT x.call f.ch.epoch)) := by unfold Clt.takeC; rw [if_pos (by omega), if_pos (show x.doing = 1 from h9)]
         refine Tk.go (L1 := clA b c cp cn ck (x.known f.ch) p' k' bt bs) (L2 := []) (ktry_tk (x := x.known f.ch) ⟨hx.t1, hx.t2⟩ hl (nearT now)) (st.pick [2, 3, 4, 0] rfl (by decide)) ?_
         clear st
         rintro _ _ w ⟨g, rfl, rfl⟩ st
         rw [e]
         exact ⟨_, _, _, rfl, _, ⟨_, _, _, [sndA g (x.known f.ch).to (callT x.call f.ch.epoch)], p', k', rfl, .inr ⟨_, _, g, rfl, rfl, rfl⟩, rfl⟩, st⟩
       · have e : Clt.takeC c x f now = (x.known f.ch, none) := by unfold Clt.takeC; rw [if_pos (by omega), if_neg (show ¬ x.doing = 1 from h9)]
         rw [e]
         exact ⟨_, ⟨_, _, _, [], p', k', rfl, .inl ⟨rfl, rfl, rfl⟩, rfl⟩, st.pick [2, 3, 4, 0] rfl (by decide)⟩)
end
end Go.Proofs.Ytljipmhkpnigkaa
