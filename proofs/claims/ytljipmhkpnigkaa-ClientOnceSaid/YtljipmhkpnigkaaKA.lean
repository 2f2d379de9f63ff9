/- Package client: a session, and its inner contracts. -/
import Derived.Test.YtljipmhkpnigkaaDK
import Derived.Test.YtljipmhkpnigkaaOC
import Derived.Test.YtljipmhkpnigkaaBB
import Derived.Test.YtljipmhkpnigkaaBK
import Derived.Test.YtljipmhkpnigkaaS2
import Derived.Test.YtljipmhkpnigkaaCM
import Derived.Test.YtljipmhkpnigkaaSP
import Derived.Test.YtljipmhkpnigkaaFP
import Derived.Test.YtljipmhkpnigkaaFR
import Derived.Test.YtljipmhkpnigkaaBY
namespace Go.Proofs.Ytljipmhkpnigkaa
open Go.Vc Go.Codec

abbrev frmL (f : Frm) (p : Option Addr) (k : Nat) : List Value := [.int .i64 f.kind, .int .i64 (f.nums 0), .int .i64 (f.nums 1), .int .i64 (f.nums 2), .int .i64 (f.nums 3), .int .i64 (f.nums 4), .int .i64 (f.nums 5), .int .i64 f.op.kind, .string (mk f.op.key), .string (mk f.op.val), .int .i64 f.op.ver, .int .i64 f.res.code, .string (mk f.res.val), .int .i64 f.res.ver, .int .i64 f.res.at_, .int .i64 (f.nums 6), .int .i64 f.ent.idx, .int .i64 f.ent.cl, .int .i64 f.ent.sq, .int .i64 f.ent.op.kind, .string (mk f.ent.op.key), .string (mk f.ent.op.val), .int .i64 f.ent.op.ver, .int .i64 f.ch.epoch, .slice p f.ch.mem.length k, .int .i64 f.ch.drain, .int .i64 (f.nums 7), .int .i64 (f.nums 8), .int .i64 (f.nums 9)]
abbrev frmV (f : Frm) (p : Option Addr) (k : Nat) : Value := .agg (frmL f p k).toArray
abbrev memR (l : List (Int × Int)) (p : Option Addr) (k : Nat) : Atom := .row 0 64 2 (.slice p l.length k) l.length (cellsOf memE l)
structure Clt where
  id : Int
  ch : Chn
  tok : Bk
  slot : Option Outc
  call : Frm
  doing : Int
  tick : Int
  unsure : Bool
abbrev cltL (c : Cfg) (cp : Option Addr) (cn ck : Nat) (x : Clt) (p : Option Addr) (k bt bs : Nat) : List Value :=
  [.int .i64 c.nodes, .int .i64 c.chain, .int .i64 c.clients, .slice cp cn ck, .int .i64 c.queue, .int .i64 c.window, .int .i64 c.reads, .int .i64 c.link, .int .i64 c.patience, .int .i64 c.timeout, .int .i64 c.budget, .int .i64 c.refill, .int .i64 x.id, .int .i64 x.ch.epoch, .slice p x.ch.mem.length k, .int .i64 x.ch.drain, .pointer (some ⟨bt, 0, none⟩), .pointer (some ⟨bs, 0, none⟩), .int .i64 x.call.kind, .int .i64 (x.call.nums 0), .int .i64 (x.call.nums 1), .int .i64 (x.call.nums 2), .int .i64 (x.call.nums 3), .int .i64 (x.call.nums 4), .int .i64 (x.call.nums 5), .int .i64 x.call.op.kind, .string (mk x.call.op.key), .string (mk x.call.op.val), .int .i64 x.call.op.ver, .int .i64 x.call.res.code, .string (mk x.call.res.val), .int .i64 x.call.res.ver, .int .i64 x.call.res.at_, .int .i64 (x.call.nums 6), .int .i64 x.call.ent.idx, .int .i64 x.call.ent.cl, .int .i64 x.call.ent.sq, .int .i64 x.call.ent.op.kind, .string (mk x.call.ent.op.key), .string (mk x.call.ent.op.val), .int .i64 x.call.ent.op.ver, .int .i64 x.call.ch.epoch, .slice none 0 0, .int .i64 x.call.ch.drain, .int .i64 (x.call.nums 7), .int .i64 (x.call.nums 8), .int .i64 (x.call.nums 9), .int .i64 x.doing, .int .i64 x.tick, .bool x.unsure]
abbrev cltB (b : Nat) (c : Cfg) (cp : Option Addr) (cn ck : Nat) (x : Clt) (p : Option Addr) (k bt bs : Nat) : Atom := .blk b 88 (cltL c cp cn ck x p k bt bs)
abbrev tokA (b : Nat) (x : Bk) : Atom := .blk b 151 [.int .i64 x.c, .int .i64 x.r, .int .i64 x.l, .int .i64 x.s, .int .i64 x.n]
abbrev sltA (b : Nat) (o : Option Outc) : Atom := .blk b 146 (slotC o)
abbrev clA (b : Nat) (c : Cfg) (cp : Option Addr) (cn ck : Nat) (x : Clt) (p : Option Addr) (k bt bs : Nat) : List Atom := [cltB b c cp cn ck x p k bt bs, tokA bt x.tok, sltA bs x.slot, memR x.ch.mem p k]
theorem btake_tu {b : Nat} {x : Bk} (hx : x.ok) (now : Int) : Tu Try.prog 95 #[.pointer (some ⟨b, 0, none⟩), .int .i64 now] (tokA b x) (tokA b (x.take now).2) (.bool (x.take now).1) :=
  fun w hA => (take_ca b x now w hx hA).mono fun _ _ ⟨h1, h2, h3⟩ => ⟨h1, h2, h3⟩
def nearT (n : Int) : Int := min (max n 0) 1099511627776
theorem nearT_in (n : Int) : 0 ≤ nearT n ∧ nearT n ≤ 1099511627776 := by unfold nearT; omega
theorem knear_pu (n : Int) : Pu Try.prog 74 #[.int .i64 n] (.int .i64 (nearT n)) := by
  intro w
  refine knear_ok _ _ _ ?_
  unfold knear
  exact LetI.of (LetI.of ⟨rfl, Kp.refl _ _⟩)
abbrev sndL (to : Int) (f : Frm) : List Value := [.int .i64 to, .int .i64 f.kind, .int .i64 (f.nums 0), .int .i64 (f.nums 1), .int .i64 (f.nums 2), .int .i64 (f.nums 3), .int .i64 (f.nums 4), .int .i64 (f.nums 5), .int .i64 f.op.kind, .string (mk f.op.key), .string (mk f.op.val), .int .i64 f.op.ver, .int .i64 f.res.code, .string (mk f.res.val), .int .i64 f.res.ver, .int .i64 f.res.at_, .int .i64 (f.nums 6), .int .i64 f.ent.idx, .int .i64 f.ent.cl, .int .i64 f.ent.sq, .int .i64 f.ent.op.kind, .string (mk f.ent.op.key), .string (mk f.ent.op.val), .int .i64 f.ent.op.ver, .int .i64 f.ch.epoch, .slice none 0 0, .int .i64 f.ch.drain, .int .i64 (f.nums 7), .int .i64 (f.nums 8), .int .i64 (f.nums 9)]
abbrev sndA (g : Nat) (to : Int) (f : Frm) : Atom := .blk g 70 (sndL to f)
def Clt.ask (x : Clt) (now : Int) : Clt := ⟨x.id, x.ch, x.tok, x.slot, x.call, 1, now, x.unsure⟩
def callT (f : Frm) (ep : Int) : Frm := (f.set 3 (f.nums 3 + 1)).set 0 ep
def Clt.try_ (x : Clt) (now : Int) : Clt := ⟨x.id, x.ch, x.tok, x.slot, callT x.call x.ch.epoch, 2, now, x.unsure⟩
def Clt.to (x : Clt) : Int := if readsO x.call.op then tailC x.ch else headC x.ch
def Clt.endO (x : Clt) (o : Outc) : Clt := ⟨x.id, x.ch, x.tok, (setS x.slot o).1, x.call, 0, x.tick, x.unsure⟩
def Clt.leave (x : Clt) (r : Int) : Clt := if x.unsure then x.endO ⟨3, 0, 0, [], 0, 0⟩ else x.endO ⟨2, r, 0, [], 0, 0⟩
def Clt.tokd (x : Clt) (t : Bk) : Clt := ⟨x.id, x.ch, t, x.slot, x.call, x.doing, x.tick, x.unsure⟩
def Clt.doubt (x : Clt) : Clt := ⟨x.id, x.ch, x.tok, x.slot, x.call, x.doing, x.tick, true⟩
def Clt.rest (x : Clt) (t : Int) : Clt := ⟨x.id, x.ch, x.tok, x.slot, x.call, 3, t, x.unsure⟩
def Clt.on (c : Cfg) (x : Clt) (r now : Int) : Clt :=
  if x.call.nums 3 > c.budget ∨ x.call.nums 5 < now then x.leave r
  else if (x.tok.take now).1 = false then (x.tokd (x.tok.take now).2).leave r
  else (x.tokd (x.tok.take now).2).rest (now + gapF (x.call.nums 3) 64)
section
variable {w0 : World} {b : Nat} {c : Cfg} {cp : Option Addr} {cn ck : Nat} {x : Clt} {p : Option Addr} {k bt bs : Nat}
theorem knone_pw (hB : (cltB b c cp cn ck x p k bt bs).p w0) : Pw Try.prog 70 #[.pointer (some ⟨b, 0, none⟩)] (.bool false) w0 :=
  knone_ok _ _ _ ⟨_, Blk.at_ hB rfl, rfl, Kp.refl _ _⟩
theorem kquestion_ca (w0 : World) : Ca Try.prog 93 #[] w0 fun e w' => ∃ g, e = .returned (.slice (some ⟨g, 0, none⟩) 1 1) ∧ St No w0 w' [sndA g 16 (.zero 7)] := by
  have st : St No w0 w0 [] := St.start w0
  refine kquestion_ok _ _ ?_
  unfold kquestion
  refine St.alloc st ?_; clear st; intro g w st
  exact ⟨g, rfl, st⟩
theorem kask_tk (now : Int) : Tk Try.prog 75 #[.pointer (some ⟨b, 0, none⟩), .int .i64 now] (clA b c cp cn ck x p k bt bs) fun e L' => ∃ g, e = .returned (.slice (some ⟨g, 0, none⟩) 1 1) ∧ L' = sndA g 16 (.zero 7) :: clA b c cp cn ck (x.ask now) p k bt bs := by
  intro w0 st
  refine kask_ok _ _ _ _ ?_
  unfold kask
  refine ⟨st.wr 0 (i := 47) rfl rfl, ?_⟩
  refine St.store st 0 rfl ?_; clear st; intro w st
  refine ⟨st.wr 0 (i := 48) rfl rfl, ?_⟩
  refine St.store st 0 rfl ?_; clear st; intro w st
  replace st : St _ w0 w (clA b c cp cn ck (x.ask now) p k bt bs) := st
  refine (kquestion_ca w).mono ?_
  rintro _ w1 ⟨g, rfl, st1⟩
  exact ⟨_, _, _, rfl, _, ⟨g, rfl, rfl⟩, st.made st1⟩
set_option maxHeartbeats 1000000 in
theorem ktry_tk (ht : 0 ≤ x.call.nums 3 ∧ x.call.nums 3 ≤ 1099511627776) (hl : x.ch.mem.length ≤ 1000) (now : Int) : Tk Try.prog 73 #[.pointer (some ⟨b, 0, none⟩), .int .i64 now] (clA b c cp cn ck x p k bt bs) fun e L' => ∃ g, e = .returned (.slice (some ⟨g, 0, none⟩) 1 1) ∧ L' = sndA g x.to (callT x.call x.ch.epoch) :: clA b c cp cn ck (x.try_ now) p k bt bs := by
  intro w0 st
  refine ktry_ok _ _ _ _ ?_
  unfold ktry
  refine ⟨_, st.cell 0 (i := 22) rfl rfl, LetI.id (by omega) (by omega) ⟨st.wr 0 (i := 22) rfl rfl, ?_⟩⟩
  refine St.store st 0 rfl ?_; clear st; intro w st
  refine ⟨_, st.cell 0 (i := 13) rfl rfl, st.wr 0 (i := 19) rfl rfl, ?_⟩
  refine St.store st 0 rfl ?_; clear st; intro w st
  refine ⟨st.wr 0 (i := 47) rfl rfl, ?_⟩
  refine St.store st 0 rfl ?_; clear st; intro w st
  refine ⟨st.wr 0 (i := 48) rfl rfl, ?_⟩
  refine St.store st 0 rfl ?_; clear st; intro w st
  replace st : St _ w0 w (clA b c cp cn ck (x.try_ now) p k bt bs) := st
  refine ⟨_, _, _, _, _, st.rowAt 0 (o := 13) rfl rfl, ?_⟩
  refine Pw.go (chead_pw (c := x.ch) (ElAt.of_owns memE_len (st.hold 3 _ rfl) rfl) rfl) st ?_; clear st; intro w st
  refine ⟨_, rfl, _, _, _, _, st.rowAt 0 (o := 25) rfl rfl, ?_⟩
  refine Pu.go (oreads_pu x.call.op) st ?_; clear st; intro w st
  have hfr : ∀ to : Int, sndL to (callT x.call x.ch.epoch) = sndL to (x.try_ now).call := fun _ => rfl
  refine ⟨_, rfl, Br.bool (fun h => ?_) (fun h => ?_)⟩
  · refine ⟨_, _, _, _, _, st.rowAt 0 (o := 13) rfl rfl, ?_⟩
    refine Pw.go (ctail_pw (c := x.ch) (ElAt.of_owns memE_len (st.hold 3 _ rfl) rfl) rfl (by omega)) st ?_; clear st; intro w st
    refine ⟨_, rfl, _, _, _, _, _, _, _, _, _, _, _, _, _, _, _, _, _, _, _, _, _, _, _, _, _, _, _, _, _, _, _, st.rowAt 0 (o := 18) rfl rfl, ?_⟩
    refine St.alloc st ?_; clear st; intro g w st
    have hto : x.to = tailC x.ch := by unfold Clt.to; rw [if_pos h]
    exact ⟨_, ⟨g, rfl, by rw [hto]; rfl⟩, st⟩
  · refine ⟨_, _, _, _, _, _, _, _, _, _, _, _, _, _, _, _, _, _, _, _, _, _, _, _, _, _, _, _, _, _, _, st.rowAt 0 (o := 18) rfl rfl, ?_⟩
    refine St.alloc st ?_; clear st; intro g w st
    have hto : x.to = headC x.ch := by unfold Clt.to; rw [if_neg (by simp [h])]
    exact ⟨_, ⟨g, rfl, by rw [hto]; rfl⟩, st⟩
theorem kend_tk (o : Outc) : Tk Try.prog 77 #[.pointer (some ⟨b, 0, none⟩), outV o] (clA b c cp cn ck x p k bt bs) fun e L' => e = .returned (.tuple #[]) ∧ L' = clA b c cp cn ck (x.endO o) p k bt bs := by
  intro w0 st
  refine kend_ok _ _ _ _ _ _ _ _ _ ?_
  unfold kend
  refine St.alloc st ?_; clear st; intro bo w st
  refine ⟨st.wr 1 (i := 47) rfl rfl, ?_⟩
  refine St.store st 1 rfl ?_; clear st; intro w st
  refine ⟨_, st.cell 1 (i := 17) rfl rfl, _, _, _, _, _, _, st.rowAt 0 rfl rfl, ?_⟩
  refine Tu.go (sset_tu bs x.slot o) st 3 rfl (fun _ hg => hg) ?_; clear st; intro w st
  exact ⟨_, rfl, _, ⟨rfl, rfl⟩, st.tail⟩
theorem kleave_tk (r : Int) : Tk Try.prog 81 #[.pointer (some ⟨b, 0, none⟩), .int .i64 r] (clA b c cp cn ck x p k bt bs) fun e L' => e = .returned (.tuple #[]) ∧ L' = clA b c cp cn ck (x.leave r) p k bt bs := by
  intro w0 st
  refine kleave_ok _ _ _ _ ?_
  unfold kleave
  refine ⟨_, st.cell 0 (i := 49) rfl rfl, Br.bool (fun h => ?_) (fun h => ?_)⟩
  · refine Tk.go (L2 := []) (kend_tk (x := x) ⟨3, 0, 0, [], 0, 0⟩) st ?_
    clear st
    rintro _ _ w ⟨rfl, rfl⟩ st
    refine ⟨rfl, _, ⟨rfl, rfl⟩, ?_⟩
    have e : x.leave r = x.endO ⟨3, 0, 0, [], 0, 0⟩ := by unfold Clt.leave; rw [if_pos h]
    rw [e]; exact st
  · refine Tk.go (L2 := []) (kend_tk (x := x) ⟨2, r, 0, [], 0, 0⟩) st ?_
    clear st
    rintro _ _ w ⟨rfl, rfl⟩ st
    refine ⟨rfl, _, ⟨rfl, rfl⟩, ?_⟩
    have e : x.leave r = x.endO ⟨2, r, 0, [], 0, 0⟩ := by unfold Clt.leave; rw [if_neg (by simp [h])]
    rw [e]; exact st
theorem kon_tk (htok : x.tok.ok) (ht : 0 ≤ x.call.nums 3 ∧ x.call.nums 3 ≤ 1099511627776) (r : Int) {now : Int} (hnow : 0 ≤ now ∧ now ≤ 1099511627776) : Tk Try.prog 79 #[.pointer (some ⟨b, 0, none⟩), .int .i64 r, .int .i64 now] (clA b c cp cn ck x p k bt bs) fun e L' => e = .returned (.tuple #[]) ∧ L' = clA b c cp cn ck (Clt.on c x r now) p k bt bs := by
  intro w0 st
  refine kon_ok _ _ _ _ _ ?_
  unfold kon
  refine ⟨_, st.cell 0 (i := 22) rfl rfl, _, st.cell 0 (i := 10) rfl rfl, Br.dec (fun h1 => ?_) (fun h1 => ?_)⟩
  · refine Tk.go (L2 := []) (kleave_tk (x := x) r) st ?_
    clear st
    rintro _ _ w ⟨rfl, rfl⟩ st
    refine ⟨rfl, _, ⟨rfl, rfl⟩, ?_⟩
    have e : Clt.on c x r now = x.leave r := by unfold Clt.on; rw [if_pos (.inl h1)]
    rw [e]; exact st
  refine ⟨_, st.cell 0 (i := 24) rfl rfl, Br.dec (fun h2 => ?_) (fun h2 => ?_)⟩
  · refine Tk.go (L2 := []) (kleave_tk (x := x) r) st ?_
    clear st
    rintro _ _ w ⟨rfl, rfl⟩ st
    refine ⟨rfl, _, ⟨rfl, rfl⟩, ?_⟩
    have e : Clt.on c x r now = x.leave r := by unfold Clt.on; rw [if_pos (.inr h2)]
    rw [e]; exact st
  have hn : ¬ (x.call.nums 3 > c.budget ∨ x.call.nums 5 < now) := by omega
  refine ⟨_, st.cell 0 (i := 16) rfl rfl, ?_⟩
  refine Tu.go (btake_tu htok now) st 1 rfl (fun _ hg => hg) ?_; clear st; intro w st
  replace st : St _ w0 w (clA b c cp cn ck (x.tokd (x.tok.take now).2) p k bt bs) := st
  refine ⟨_, rfl, Br.not (Br.bool (fun h3 => ?_) (fun h3 => ?_))⟩
  · have hg := gapF_in (x.call.nums 3) 64
    refine ⟨_, st.cell 0 (i := 22) rfl rfl, (gap_ca _ _ _ (by show x.call.nums 3 ≤ _; omega)).mono ?_⟩
    rintro _ w1 ⟨rfl, rfl⟩
    refine ⟨_, rfl, LetI.id (by show _ ≤ now + gapF (x.call.nums 3) 64; omega) (by show now + gapF (x.call.nums 3) 64 ≤ _; omega) ⟨st.wr 0 (i := 47) rfl rfl, ?_⟩⟩
    refine St.store st 0 rfl ?_; clear st; intro w st
    refine ⟨st.wr 0 (i := 48) rfl rfl, ?_⟩
    refine St.store st 0 rfl ?_; clear st; intro w st
    have e : Clt.on c x r now = (x.tokd (x.tok.take now).2).rest (now + gapF (x.call.nums 3) 64) := by unfold Clt.on; rw [if_neg hn, if_neg (by simp [h3])]
    rw [e]
    exact ⟨_, ⟨rfl, rfl⟩, st⟩
  · refine Tk.go (L2 := []) (kleave_tk (x := x.tokd (x.tok.take now).2) r) st ?_
    clear st
    rintro _ _ w ⟨rfl, rfl⟩ st
    refine ⟨rfl, _, ⟨rfl, rfl⟩, ?_⟩
    have e : Clt.on c x r now = (x.tokd (x.tok.take now).2).leave r := by unfold Clt.on; rw [if_neg hn, if_pos h3]
    rw [e]; exact st
end
end Go.Proofs.Ytljipmhkpnigkaa
