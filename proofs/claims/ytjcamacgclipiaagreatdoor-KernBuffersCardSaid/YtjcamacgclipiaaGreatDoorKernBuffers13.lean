/- Part of the proof of: The law KernBuffers returns true for every input, and leaves its arguments as they were. -/
import Derived.Test.YtjcamacgclipiaaGreatDoorKernBuffers12
set_option linter.all false
set_option maxRecDepth 20000
set_option maxHeartbeats 4000000
namespace Go.Proofs.YtjcamacgclipiaaGreatDoor
open Go.Proofs.Tryz
open Go.IntKind (i64 u64)
open _root_.Int (fdiv le_of_lt toNat_natCast)
open _root_.List (append_assoc cons_append getD_eq_getElem?_getD getElem?_append_left getElem?_append_right getElem?_eq_getElem getElem?_set length_append length_drop length_take mem_append mem_cons nil_append pairwise_append replicate take_append_drop)
open _root_.Nat (le_refl lt_or_ge zero_le)
open _root_.Option (getD_some)
section
open Go Mb
theorem do_done {k:PK} {e:Int} {c:bv} (cw:Cw c) (h9:c.e0 ≠ 9) (hn:1 <= k.s.fHa/\k.s.fHa <= 4):(PK.do_ k e c).1.2 = true:=by
 by_cases hb:PK.off k e = true\/Word.check c k.s.fHa ≠ 0
 ·exact (PK.do_bad hb).2.1
 ·simp only [not_or,Bool.not_eq_true,Decidable.not_not] at hb;have w:=qn hn.1 hn.2 hb.2;rw [PK.do_good hb.1 hb.2];unfold PK.does PK.errs;rw [PK.w0 w]
  repeat' split
  all_goals first | rfl | (exfalso; omega)
variable {P:KK->Prop}
structure Stepped (k k':KK) (c:Nat):Prop where
 other:∀ d,d ≠ c->k'.calls[d]? = k.calls[d]?
 len:k'.calls.length = k.calls.length
 own:∃ m,k'.fGa.1 = k.fGa.1++m/\m.length <= 1
 gD:∀ d,gD k' d = gD k d
theorem step_stepped {k:KK} (A:dJ k) {c:Nat} {x:KC} (hc:c < k.calls.length) (hx:k.calls[c]? = some (some x)):Stepped k (KK.step k c).2 c /\
  (x.fc.e0 ≠ 9->(KK.step k c).2.calls[c]? = some none\/∃ y,(KK.step k c).2.calls[c]? = some (some y)/\y.fQa = true/\y.fc = x.fc) /\
  (x.fQa = true->fNa.done k.fGa x.fBb = true->(KK.step k c).2.calls[c]? = some none):=by
 have hi:KK.is k c = true:=by unfold KK.is; exact decide_eq_true (by omega)
 have hcall:KK.call k c = some x:=by unfold KK.call; rw [toNat_natCast,getD_eq_getElem?_getD,hx]; rfl
 have hb:KK.busy k c = true:=by unfold KK.busy; rw [hi,hcall]; rfl
 have cw:=A.cw c x hx;have hstep:(KK.step k c).2 = KK.work (KK.tick k) c x:=by unfold KK.step; rw [if_neg (by rw [hb]; simp),hcall]
 have ends_c:∀ (m:KK) (a:bY) (l:io),m.calls = k.calls->(KK.ends m c x a l).calls = k.calls.set c none:=fun m a l h=>by unfold KK.ends; simp [h]
 have set_none:∀ d,d ≠ c->(k.calls.set c none)[d]? = k.calls[d]?:=fun d h=>by rw [getElem?_set,if_neg (fun e=>h e.symm)]
 have at_none:(k.calls.set c none)[c]? = some none:=by rw [getElem?_set,if_pos rfl,if_pos hc]
 have told_nu:x.fQa = true->¬ aQ (am x.fc).1 = true:=fun ht hu=>by
  have T:=A.teller ⟨hx,ht⟩;have w:=qn A.en.1 A.en.2 T.k;have:=T.t;rw [oN w.kind] at hu;unfold aQ at hu;unfold Tk at this;simp at hu;omega
 rw [hstep];unfold KK.work;by_cases hu:aQ (am x.fc).1 = true
 ·rw [if_pos hu];have ha:(KK.access (KK.tick k) c x).2.calls = k.calls/\(KK.access (KK.tick k) c x).2.fGa = k.fGa:=by
   unfold KK.access;split
   ·exact ⟨rfl,rfl⟩
   ·split <;> exact ⟨rfl,rfl⟩
  have hcs:=ends_c (KK.access (KK.tick k) c x).2 (KK.access (KK.tick k) c x).1.1 (KK.access (KK.tick k) c x).1.2 ha.1;have hep:(KK.ends (KK.access (KK.tick k) c x).2 c x (KK.access (KK.tick k) c x).1.1 (KK.access (KK.tick k) c x).1.2).fGa = k.fGa:=ha.2;refine ⟨⟨fun d h=>by rw [hcs]; exact set_none d h,by rw [hcs]; simp,⟨[],by rw [hep]; simp,zero_le _⟩,fun d=>by unfold gD; rw [hep]⟩,fun _=>.inl (by rw [hcs]; exact at_none),fun ht=>absurd hu (told_nu ht)⟩
 ·rw [if_neg hu];by_cases ht:x.fQa = false/\KK.takes (KK.tick k).p x = true
  ·rw [if_pos ht];have hcs:(KK.send (KK.clean (KK.tell (KK.tick k) c x) c) c x).calls = k.calls.set c (some { x with fQa:=true,fBb:=(fNa.begin_ k.fGa c).1.1 }):=by
    simp only [KK.send,KK.clean,KK.tell,KK.tick,toNat_natCast,List.set_set]
   have hep:(KK.send (KK.clean (KK.tell (KK.tick k) c x) c) c x).fGa = (fNa.begin_ k.fGa c).2:=rfl;have hel:k.fGa.2.length = k.calls.length:=by have:=A.ok.el; have:=A.ok.cl; omega
   have he:(fNa.begin_ k.fGa c).2 = (k.fGa.1++[(c:Int)],k.fGa.2):=by
    have:fNa.is k.fGa c = true:=by unfold fNa.is; exact decide_eq_true (by omega)
    unfold fNa.begin_;rw [if_pos this]
   refine ⟨⟨fun d h=>by rw [hcs,getElem?_set,if_neg (fun e=>h e.symm)],by rw [hcs]; simp,⟨[(c:Int)],by rw [hep,he],le_refl _⟩,fun d=>by unfold gD; rw [hep,he]⟩,fun _=>.inr ⟨{ x with fQa:=true,fBb:=(fNa.begin_ k.fGa c).1.1 },by rw [hcs,getElem?_set,if_pos rfl,if_pos hc],rfl,rfl⟩,fun h=>by rw [ht.1] at h; cases h⟩
  ·rw [if_neg ht];by_cases hd:x.fQa = true/\fNa.done (KK.tick k).fGa x.fBb = false
   ·rw [if_pos hd];refine ⟨⟨fun d h=>rfl,rfl,⟨[],by simp [KK.tick],zero_le _⟩,fun d=>rfl⟩,fun _=>.inr ⟨x,hx,hd.1,rfl⟩,fun h1 h2=>?_⟩;have:=hd.2;rw [show (KK.tick k).fGa = k.fGa from rfl,h2] at this;cases this
   ·rw [if_neg hd];by_cases h9:x.fc.e0 = 9
    ·have hnt:¬ x.fQa = true:=fun h=>by
      have:=(A.teller ⟨hx,h⟩).t;unfold Tk at this; omega
     split
     ·have hcs:=ends_c { KK.tick k with p:=(PK.do_ (KK.tick k).p x.fFa x.fc).2 } (PK.do_ (KK.tick k).p x.fFa x.fc).1.1 iP rfl;refine ⟨⟨fun d h=>by rw [hcs]; exact set_none d h,by rw [hcs]; simp,⟨[],by show k.fGa.1 = k.fGa.1++[]; simp,zero_le _⟩,fun d=>rfl⟩,fun h=>absurd h9 h,fun h=>absurd h hnt⟩
     ·exact ⟨⟨fun d h=>rfl,rfl,⟨[],by show k.fGa.1 = k.fGa.1++[]; simp,zero_le _⟩,fun d=>rfl⟩,fun h=>absurd h9 h,fun h=>absurd h hnt⟩
    ·have hdn:(PK.do_ (KK.tick k).p x.fFa x.fc).1.2 = true:=do_done cw h9 A.en;rw [if_pos hdn];have hcs:=ends_c { KK.tick k with p:=(PK.do_ (KK.tick k).p x.fFa x.fc).2 } (PK.do_ (KK.tick k).p x.fFa x.fc).1.1 iP rfl;refine ⟨⟨fun d h=>by rw [hcs]; exact set_none d h,by rw [hcs]; simp,⟨[],by show k.fGa.1 = k.fGa.1++[]; simp,zero_le _⟩,fun d=>rfl⟩,fun _=>.inl (by rw [hcs]; exact at_none),fun _ _=>by rw [hcs]; exact at_none⟩
theorem busy_nat {k:KK} {c:Nat} (hc:c < k.calls.length):KK.busy k c = true↔∃ x,k.calls[c]? = some (some x):=by
 have hi:KK.is k c = true:=by unfold KK.is; exact decide_eq_true (by omega)
 unfold KK.busy KK.call;rw [hi,toNat_natCast,getD_eq_getElem?_getD,getElem?_eq_getElem hc];cases k.calls[c] with
 | none=>simp
 | some x=>simp
end
section
open Go Mb
variable {P:KK->Prop}
end
section
open Go Mb
theorem mem_othersFrom {k:PK} {es:List aL} {env pg j:Int}:∀ {L:List Int},j ∈ L->fKa.takes (fKa.ev es j) = true->PK.q (PK.do_ k (fKa.ev es j).fBa (fKa.ev es j).fJa).2 env pg ∈ fKa.fHb k es env pg L
 | i::L,h,ht=>by
  rw [fKa.fHb];rcases mem_cons.1 h with rfl | h
  ·rw [if_pos ht]; exact List.mem_cons_self
  ·have:=mem_othersFrom (k:=k) (env:=env) (pg:=pg) h ht;split
   ·exact List.mem_cons_of_mem _ this
   ·exact this
theorem eqb_answer (a:bY):ad.eqb a a = true:=by simp [ad.eqb]
theorem eqb_line (a:io):an.eqb a a = true:=by simp [an.eqb]
def xQ (kind:Int):Int:=if kind = 20 then 1 else if kind = 21 then 2 else 3
theorem lets_need {kind:Int} (h:20 <= kind/\kind <= 23) (r:Int):bk r kind = ap (xQ kind) r:=by
 have:kind = 20\/kind = 21\/kind = 22\/kind = 23:=by omega
 rcases this with rfl | rfl | rfl | rfl <;> rfl
theorem left_frame {p:PK} {x:KC} {a pg:Int} {qq:Pte} (h:(KK.left p x a pg qq).fCa ≠ 0):(KK.left p x a pg qq).fEa = qq.fEa/\(KK.left p x a pg qq).fDa = qq.fDa:=by
 unfold KK.left at h ⊢;by_cases h7:x.fc.e0 = 7
 ·rw [if_pos h7] at h ⊢;split
  ·rename_i hh; rw [if_pos hh] at h; exact absurd rfl h
  ·exact ⟨rfl,rfl⟩
 ·rw [if_neg h7] at h ⊢;by_cases h8:x.fc.e0 = 8
  ·rw [if_pos h8]; split <;> exact ⟨rfl,rfl⟩
  ·rw [if_neg h8] at h ⊢;split
   ·rename_i hh; rw [if_pos hh] at h; exact absurd rfl h
   ·exact ⟨rfl,rfl⟩
theorem xI {p:PK} {a pg:Int}:∀ (cs:List (Option KC)) (qq:Pte),KK.fDb p a pg cs false qq = (qq,false)
 | [],_=>rfl
 | none::cs,qq=>by rw [KK.fDb]; exact xI cs qq
 | some x::cs,qq=>by rw [KK.fDb,if_neg (fun h=>Bool.false_ne_true h.1)]; exact xI cs qq
theorem uH {p:PK} {a pg:Int}:∀ (cs:List (Option KC)) (b:Bool) (qq:Pte),(KK.fDb p a pg cs b qq).1.fCa ≠ 0->(KK.fDb p a pg cs b qq).1.fEa = qq.fEa/\(KK.fDb p a pg cs b qq).1.fDa = qq.fDa
 | [],_,_,_=>⟨rfl,rfl⟩
 | none::cs,b,qq,h=>by rw [KK.fDb] at h ⊢; exact uH cs b qq h
 | some x::cs,b,qq,h=>by
  rw [KK.fDb] at h ⊢;by_cases hc:b = true/\x.fQa = true
  ·rw [if_pos hc] at h ⊢;by_cases hz:(KK.left p x a pg qq).fCa = 0
   ·rw [hz] at h;have:((0:Int) != 0) = false:=rfl;rw [this,xI] at h;exact absurd hz h
   ·obtain ⟨a1,a2⟩:=uH cs _ _ h;obtain ⟨b1,b2⟩:=left_frame hz;exact ⟨a1.trans b1,a2.trans b2⟩
  ·rw [if_neg hc] at h ⊢; exact uH cs b qq h
theorem put_well {p:Pte} (h:0 <= p.fEa/\p.fEa < 16/\0 <= p.fDa/\p.fDa < 8) (hr:1 <= p.fCa/\p.fCa <= 3):(cK p).2 = true:=by
 unfold cK;cases hq:ak.eqb p ⟨0,0,0⟩ with
 | true=>rfl
 | false =>
  have:(((((decide (p.fEa < 0)) || (decide (p.fEa >= 16))) || (decide (p.fDa < 0))) || (decide (p.fDa >= 8))) || (!(aS p.fCa))) = false:=by
   rw [oM.2 hr]; simp; omega
  simp only [cond_false];rw [this]; rfl
theorem tabFor_seen {k:KK} (F:PK.Fine k.p) {e pg:Int} {l:io} (hs:(KK.seen k e pg).2 = true) (hc:Cov (KK.seen k e pg).1 l) (hq:(PK.q k.p e pg).fCa ≠ 0):(Table.get (KK.fGb k e pg) pg).1 = (KK.seen k e pg).1:=by
 have hr:=hc.r;have hfs:(KK.seen k e pg).1.fEa = (PK.q k.p e pg).fEa/\(KK.seen k e pg).1.fDa = (PK.q k.p e pg).fDa:=by
  have h0:(KK.seen k e pg).1.fCa ≠ 0:=by omega
  unfold KK.seen at h0 ⊢;exact uH _ _ _ h0
 have hb:=F.by_ e pg hq;have hcap:(fAa.get k.p.caps e (PK.q k.p e pg).fDa).fCa ≠ 0:=by have:=(bI hb.2.2).2; omega
 have hf:=PK.fine_frame F.ok.fine hb.1 hcap;have hsl:=(PK.has_iff F.ok).1 hb.1;have hsz:=cQ.1 F.ok.sz;obtain ⟨_,hg,_⟩:=PK.q_on hq;have hpg:aK pg = true:=by
  by_cases hh:aK pg = true/\(Table.at_ (PK.tab k.p e) pg).fCa ≠ 0
  ·exact hh.1
  ·rw [Table.get_no hh] at hg; cases hg
 have hz:(Table.insert (replicate 8 cc) pg (KK.seen k e pg).1).1 = 0:=by
  unfold Table.insert;have key:∀ n,n < 8->((replicate 8 cc).getD n cc).fCa = 0:=by decide
  obtain ⟨n,e1,hn⟩:=kJ hpg;have hat:(Table.at_ (replicate 8 cc) pg).fCa = 0:=by unfold Table.at_; rw [e1,toNat_natCast]; exact key n hn
  rw [if_neg,if_neg (by rw [hat]; simp)];rw [put_well (by rw [hfs.1,hfs.2,← hb.2.1]; omega) hr,hpg];simp; omega
 unfold KK.fGb;rw [if_pos hs,Table.get_insert (by simp) _ _ hz,if_pos rfl]
theorem stay_of_aft {p:PK} {e:Int} {c:bv} {a pg r:Int} (hq:(PK.q p a pg).fCa ≠ 0) (ht:Tk c) (h:ap r (PK.aft p e c a pg).fCa = true):Stay p e c a pg (PK.q p a pg).fDa r:=by
 have hno:∀ x:Pte,x = cc->ap r x.fCa = true->False:=fun x e1 h1=>by
  have:=(bI h1).2; rw [e1] at this; simp at this
 unfold PK.aft at h;refine ⟨fun h7 ho=>?_,fun h8 e1 e2 hw=>?_,fun h45=>?_⟩
 ·rw [if_pos h7,if_pos ho] at h; exact hno _ rfl h
 ·rw [if_neg (by omega),if_pos h8,if_pos ⟨⟨e1,e2⟩,by subst e1; subst e2; exact ⟨hq,hw⟩⟩] at h;exact h
 ·cases hg:PK.gz p e c a (PK.q p a pg).fDa with
  | false=>rfl
  | true=>rw [if_neg (by omega),if_neg (by omega),if_pos ⟨hq,hg⟩] at h; exact (hno _ rfl h).elim
theorem kmem_has {fs:List (List Int)} {f a:Int} (h0:0 <= f) (h1:f < fs.length) (h2:0 <= a) (h3:a < 16):Mem.has fs f a:=⟨h0,h1,h2,h3⟩
theorem touch_well {k:PK} (ok:PK.Ok k) {f:Int} {c:bv} (cw:Cw c) (w:Well k.s.fHa c) (hu:20 <= c.e0) (h0:0 <= f) (h1:f < k.s.fUa):(PK.touch k f c).1.2 = true/\(PK.touch k f c).1.1.fWa = 0:=by
 have hk:=oN w.kind;have h2:=w.w7 hu;have harg:Word.arg c 2 16 = (c.e2,true):=by
  have h3:(Word.arg c 2 16).2 = true:=(arg_of (by decide) (by decide) (by decide) (by decide)).2 h2;unfold Word.arg at h3 ⊢;split
  ·rename_i hh; rw [if_pos hh] at h3; cases h3
  ·show (i64.wrap c.e2,true) = _;rw [kwr cw.c2 h2]
 have hml:=ok.ml;have hm:Mem.has k.m f c.e2:=kmem_has h0 (by omega) cw.c2 h2;have hu':aQ c.e0 = true:=by unfold aQ; have:=w.kind; simp; omega
 have hld:(Mem.load k.m f c.e2).2 = true:=by unfold Mem.load; rw [if_pos hm]
 have hst:∀ v,(Mem.store k.m f c.e2 v).1 = true:=fun v=>by unfold Mem.store; rw [if_pos hm]
 unfold PK.touch;rw [hk,harg];simp only;rw [if_neg (by rw [hu']; simp)]
 repeat' split
 ·exact ⟨hld,rfl⟩
 ·exact ⟨hst _,rfl⟩
 ·refine ⟨?_,rfl⟩;unfold Mem.cas; split <;> exact hld
 ·refine ⟨?_,rfl⟩;unfold Mem.add; exact hld
theorem walk_cov {k:KK} (I:dJ k) {c:Nat} (hc:c < k.calls.length) {x:KC} (h:(KK.fYa k c x).1.2 = true) (hkind:20 <= i64.wrap x.fc.e0/\i64.wrap x.fc.e0 <= 23):Cov (PK.q k.p x.fFa (i64.wrap x.fc.e1)) (KK.fYa k c x).1.1/\(KK.fYa k c x).1.1.fBa = x.fFa/\(KK.fYa k c x).1.1.fPa = i64.wrap x.fc.e1/\bk (KK.fYa k c x).1.1.fCa (i64.wrap x.fc.e0) = true:=by
 unfold KK.fYa at h ⊢;rw [tO] at h ⊢;unfold User.walk at h ⊢;split
 ·rename_i hf;have f:=Tlb.find_in (I.tok c hc) hf.1;have L:=I.line c hc _ f.1 (by rw [f.2.1]; exact f.2.2.2);have hcov:=L.cov;rw [f.2.1,f.2.2.1] at hcov;exact ⟨hcov,f.2.1,f.2.2.1,hf.2⟩
 ·rename_i hnf;rw [if_neg hnf] at h;split
  ·rename_i hl; rw [if_pos hl] at h; cases h
  ·rename_i hl;have hl':bk (Table.get (KK.fGb k x.fFa (i64.wrap x.fc.e1)) (i64.wrap x.fc.e1)).1.fCa (i64.wrap x.fc.e0) = true:=by simpa using hl
   have hr:=(bI ((lets_need hkind _) ▸ hl')).2;obtain ⟨s1,s2⟩:=tabFor_get k x.fFa (i64.wrap x.fc.e1) (by omega);refine ⟨?_,rfl,rfl,hl'⟩;have hcov:Cov (KK.seen k x.fFa (i64.wrap x.fc.e1)).1 (⟨x.fFa,i64.wrap x.fc.e1,(Table.get (KK.fGb k x.fFa (i64.wrap x.fc.e1)) (i64.wrap x.fc.e1)).1.fEa,(Table.get (KK.fGb k x.fFa (i64.wrap x.fc.e1)) (i64.wrap x.fc.e1)).1.fCa⟩:io):=by
    refine ⟨?_,?_⟩
    ·show (KK.seen k x.fFa (i64.wrap x.fc.e1)).1.fEa = (Table.get (KK.fGb k x.fFa (i64.wrap x.fc.e1)) (i64.wrap x.fc.e1)).1.fEa;rw [s2]
    ·show ap (Table.get (KK.fGb k x.fFa (i64.wrap x.fc.e1)) (i64.wrap x.fc.e1)).1.fCa (KK.seen k x.fFa (i64.wrap x.fc.e1)).1.fCa = true;rw [← s2]; exact within_refl hr
   exact ((seen_cov I.en I.F I.tell_all _ _ _).1 ⟨s1,hcov⟩).1
theorem walk_fault {k:KK} (I:dJ k) {c:Nat} {x:KC} (h:(KK.fYa k c x).1.2 = false) (hkind:20 <= i64.wrap x.fc.e0/\i64.wrap x.fc.e0 <= 23):bk (PK.q k.p x.fFa (i64.wrap x.fc.e1)).fCa (i64.wrap x.fc.e0) = false\/∃ d y,Tells k d y/\bk (PK.q (PK.do_ k.p y.fFa y.fc).2 x.fFa (i64.wrap x.fc.e1)).fCa (i64.wrap x.fc.e0) = false:=by
 have hl:bk (Table.get (KK.fGb k x.fFa (i64.wrap x.fc.e1)) (i64.wrap x.fc.e1)).1.fCa (i64.wrap x.fc.e0) = false:=by
  unfold KK.fYa User.walk at h;split at h
  ·cases h
  ·split at h
   ·rename_i hh; exact hh
   ·cases h
 rw [lets_need hkind] at hl ⊢;cases hq:ap (xQ (i64.wrap x.fc.e0)) (PK.q k.p x.fFa (i64.wrap x.fc.e1)).fCa with
 | false=>exact .inl rfl
 | true =>
  right
  have hne:(PK.q k.p x.fFa (i64.wrap x.fc.e1)).fCa ≠ 0:=by have:=(bI hq).2; omega
  by_cases hall:∀ y,some y ∈ k.calls->y.fQa = true->Stay k.p y.fFa y.fc x.fFa (i64.wrap x.fc.e1) (PK.q k.p x.fFa (i64.wrap x.fc.e1)).fDa (xQ (i64.wrap x.fc.e0))
  ·exfalso
   obtain ⟨s1,s2⟩:=(seen_cov I.en I.F I.tell_all x.fFa (i64.wrap x.fc.e1) (⟨x.fFa,i64.wrap x.fc.e1,(PK.q k.p x.fFa (i64.wrap x.fc.e1)).fEa,xQ (i64.wrap x.fc.e0)⟩:io)).2 ⟨⟨rfl,hq⟩,hall⟩;rw [tabFor_seen I.F s1 s2 hne,s2.w] at hl;cases hl
  ·simp only [Classical.not_forall] at hall;obtain ⟨y,hy,hty,hns⟩:=hall;obtain ⟨d,hd⟩:=calls_mem hy;refine ⟨d,y,⟨hd,hty⟩,?_⟩;have T:=I.teller ⟨hd,hty⟩;have hcs:=I.ok.cs y hy;rw [lets_need hkind,PK.do_q I.F T.w (PK.off_iff.2 ⟨hcs.2.2.1,hcs.2.2.2⟩) T.k T.t];cases ha:ap (xQ (i64.wrap x.fc.e0)) (PK.aft k.p y.fFa y.fc x.fFa (i64.wrap x.fc.e1)).fCa with
   | false=>rfl
   | true=>exact absurd (stay_of_aft hne T.t ha) hns
theorem access_good {k:KK} (I:dJ k) {c:Nat} (hc:c < k.calls.length) {x:KC} (hx:k.calls[c]? = some (some x)) (hu:aQ (am x.fc).1 = true) {es:List aL} {e:aL} (h1:e.fJa = x.fc) (h2:e.fBa = x.fFa) (h3:e.fCb = (KK.access k c x).1.1) (h4:e.fAb = (KK.access k c x).1.2)
  (hov:∀ d y,Tells k d y->y.fat ∈ Hist.over es e.fIa/\(fKa.ev es y.fat).fJa = y.fc/\(fKa.ev es y.fat).fBa = y.fFa):fKa.access k.p es k.p.s e = true/\(if fKa.well k.p.s e = true then (PK.touch k.p e.fAb.fEa e.fJa).2 else k.p) = (KK.access k c x).2.p:=by
 have cw:=I.cw c x hx;unfold fKa.access fKa.well;rw [h1,h2,h3,h4];unfold KK.access;by_cases hk:Word.check x.fc k.p.s.fHa ≠ 0
 ·rw [if_pos hk,if_pos hk];simp only;refine ⟨by rw [eqb_answer,eqb_line]; rfl,?_⟩;have:(Word.check x.fc k.p.s.fHa == 0) = false:=by simpa using hk
  rw [this]; simp
 ·rw [if_neg hk,if_neg hk];have hk0:Word.check x.fc k.p.s.fHa = 0:=by simpa using hk
  have w:=qn I.en.1 I.en.2 hk0;have hkv:=oN w.kind;have hu0:20 <= x.fc.e0/\x.fc.e0 <= 23:=by rw [hkv] at hu; unfold aQ at hu; simpa using hu
  have hw0:=PK.w0 w;have hkind:20 <= i64.wrap x.fc.e0/\i64.wrap x.fc.e0 <= 23:=by rw [hw0]; exact hu0
  by_cases hf:(KK.fYa k c x).1.2 = false
  ·rw [if_pos hf];simp only [if_true];refine ⟨?_,by simp⟩;rw [eqb_line];have hfa:fKa.faults e (fKa.others k.p es e.fIa x.fFa (i64.wrap x.fc.e1)) = true:=by
    unfold fKa.faults fKa.others;rw [h1,List.any_eq_true];rcases walk_fault I hf hkind with h | ⟨d,y,hy,h⟩
    ·exact ⟨_,List.mem_cons_self,by show (!(bk (PK.q k.p x.fFa (i64.wrap x.fc.e1)).fCa _)) = true; rw [h]; rfl⟩
    ·obtain ⟨o1,o2,o3⟩:=hov d y hy;have T:=I.teller hy;have htk:fKa.takes (fKa.ev es y.fat) = true:=by
      have wy:=qn I.en.1 I.en.2 T.k;have:=T.t;unfold fKa.takes;rw [o2,oN wy.kind];unfold Tk at this;rcases this with h | h | h | h <;> simp [h]
     have hm:=mem_othersFrom (k:=k.p) (env:=x.fFa) (pg:=i64.wrap x.fc.e1) o1 htk;rw [o2,o3] at hm;exact ⟨_,List.mem_cons_of_mem _ hm,by rw [h]; rfl⟩
   rw [hfa]; rfl
  ·rw [if_neg hf];have hf':(KK.fYa k c x).1.2 = true:=by simpa using hf
   obtain ⟨cv,e1,e2,e3⟩:=walk_cov I hc hf' hkind;have hne:(PK.q k.p x.fFa (i64.wrap x.fc.e1)).fCa ≠ 0:=by have:=cv.r; omega
   have hb:=I.F.by_ _ _ hne;have hcap:(fAa.get k.p.caps x.fFa (PK.q k.p x.fFa (i64.wrap x.fc.e1)).fDa).fCa ≠ 0:=by have:=(bI hb.2.2).2; omega
   have hfr:=PK.fine_frame I.F.ok.fine hb.1 hcap;rw [hb.2.1,cv.f] at hfr;obtain ⟨t1,t2⟩:=touch_well I.F.ok cw w hu0.1 hfr.1 hfr.2;have hlr:=(bI cv.w).1;simp only;rw [t2,if_neg (by decide)];have hgo:fKa.goes e (fKa.others k.p es e.fIa x.fFa (i64.wrap x.fc.e1)) = true:=by
    unfold fKa.goes fKa.others;rw [h4,List.any_eq_true];refine ⟨_,List.mem_cons_self,?_⟩;unfold KK.access;rw [if_neg hk,if_neg hf];show ((PK.q k.p x.fFa (i64.wrap x.fc.e1)).fEa == _ && _) = true;rw [cv.f];show ((_ == _) && ap _ (PK.q k.p x.fFa (i64.wrap x.fc.e1)).fCa) = true;rw [cv.w]; simp
   have hown:fKa.own e = true:=by
    unfold fKa.own;rw [h1,h2,h4];unfold KK.access;rw [if_neg hk,if_neg hf];simp only;rw [e1,e2,e3]; simp
   rw [hgo,hown,t1,eqb_answer,hk0];refine ⟨rfl,?_⟩;rw [if_pos];simp; omega
end
section
open Go Mb
namespace fKa
def jstep (es:List aL) (s:dc) (k:PK) (i:Int):PK:=if bQ (ev es i) = true then (if well s (ev es i) = true then (PK.touch k (ev es i).fAb.fEa (ev es i).fJa).2 else k) else (PK.do_ k (ev es i).fBa (ev es i).fJa).2
def good (es:List aL) (s:dc) (k:PK) (i:Int):Prop:=(bQ (ev es i) = true->access k es s (ev es i) = true)/\(bQ (ev es i) = false->(PK.do_ k (ev es i).fBa (ev es i).fJa).1.2 = true/\(PK.do_ k (ev es i).fBa (ev es i).fJa).1.1 = (ev es i).fCb)
def Good (es:List aL) (s:dc):PK->List Int->Prop
 | _,[]=>True
 | k,i::l=>good es s k i/\Good es s (jstep es s k i) l
def jrun (es:List aL) (s:dc):PK->List Int->PK
 | k,[]=>k
 | k,i::l=>jrun es s (jstep es s k i) l
theorem run_good {es:List aL} {s:dc} (lin acc:Bool):∀ {l:List Int} {k:PK},Good es s k l->runFrom es s lin acc k l = (-1,true)
 | [],_,_=>rfl
 | i::l,k,⟨g,h⟩=>by
  have ih:=run_good lin acc h;rw [runFrom];unfold jstep at ih;by_cases hu:bQ (ev es i) = true
  ·rw [if_pos hu] at ih ⊢;rw [if_neg (by rw [g.1 hu]; simp)];exact ih
  ·rw [if_neg hu] at ih ⊢;have g2:=g.2 (by simpa using hu);rw [if_neg,ih];rintro ⟨_,h1 | h1⟩
   ·rw [g2.1] at h1; cases h1
   ·rw [g2.2,eqb_answer] at h1; cases h1
theorem Good_app {es:List aL} {s:dc} {i:Int}:∀ {l:List Int} {k:PK},Good es s k l->good es s (jrun es s k l) i->Good es s k (l++[i])
 | [],_,_,g=>⟨g,trivial⟩
 | _::_,_,⟨a,b⟩,g=>⟨a,Good_app b g⟩
theorem jrun_app {es:List aL} {s:dc} {i:Int}:∀ {l:List Int} {k:PK},jrun es s k (l++[i]) = jstep es s (jrun es s k l) i
 | [],_=>rfl
 | _::l,_=>jrun_app (l:=l)
structure Alike (es es':List aL) (i:Int):Prop where
 e:ev es' i = ev es i
 o:Hist.over es' (ev es i).fIa = Hist.over es (ev es i).fIa
 c:∀ j ∈ Hist.over es (ev es i).fIa,(ev es' j).fJa = (ev es j).fJa/\(ev es' j).fBa = (ev es j).fBa
theorem wH {k:PK} {es es':List aL} {env pg:Int}:∀ {L:List Int},(∀ j ∈ L,(ev es' j).fJa = (ev es j).fJa/\(ev es' j).fBa = (ev es j).fBa)->fHb k es' env pg L = fHb k es env pg L
 | [],_=>rfl
 | i::L,h=>by
  have h1:=h i (by simp);have ih:=wH (k:=k) (env:=env) (pg:=pg) (L:=L) (fun j hj=>h j (by simp [hj]));have ht:takes (ev es' i) = takes (ev es i):=by unfold takes; rw [h1.1]
  rw [fHb,fHb,ht,h1.1,h1.2,ih]
theorem Alike.access {es es':List aL} {i:Int} (A:Alike es es' i) (k:PK) (s:dc):access k es' s (ev es' i) = access k es s (ev es i):=by
 have ho:others k es' (ev es i).fIa (ev es i).fBa (i64.wrap (ev es i).fJa.e1) = others k es (ev es i).fIa (ev es i).fBa (i64.wrap (ev es i).fJa.e1):=by
  unfold others;rw [A.o,wH A.c]
 unfold fKa.access;rw [A.e,ho]
theorem Alike.good {es es':List aL} {i:Int} (A:Alike es es' i) {k:PK} {s:dc} (g:good es s k i):good es' s k i:=by
 have h:=A.access k s;unfold fKa.good at g ⊢;rw [h,A.e]; exact g
theorem Alike.jstep {es es':List aL} {i:Int} (A:Alike es es' i) (k:PK) (s:dc):jstep es' s k i = jstep es s k i:=by
 unfold fKa.jstep; rw [A.e]
theorem Good_alike {es es':List aL} {s:dc}:∀ {l:List Int} {k:PK},(∀ i ∈ l,Alike es es' i)->Good es s k l->Good es' s k l/\jrun es' s k l = jrun es s k l
 | [],_,_,_=>⟨trivial,rfl⟩
 | i::l,k,h,⟨a,b⟩=>by
  have A:=h i (by simp);obtain ⟨h1,h2⟩:=Good_alike (l:=l) (fun j hj=>h j (by simp [hj])) b;have ej:=A.jstep k s;refine ⟨⟨A.good a,by rw [ej]; exact h1⟩,?_⟩;rw [jrun,jrun,ej]; exact h2
end fKa
theorem ev_get {es:List aL} {n:Nat} {e:aL} (h:es[n]? = some e):fKa.ev es n = e:=by simp [fKa.ev,h]
theorem placesFrom_set (P:aL->Bool):∀ (es:List aL) (n:Nat) (d e:aL) (i:Int),es[n]? = some d->P e = P d->Hist.fEb P (es.set n e) i = Hist.fEb P es i
 | [],_,_,_,_,h,_=>by simp at h
 | a::es,0,d,e,i,h,hp=>by
  simp at h; subst h;rw [List.set_cons_zero,Hist.fEb,Hist.fEb,hp]
 | a::es,n + 1,d,e,i,h,hp=>by
  rw [List.set_cons_succ,Hist.fEb,Hist.fEb,placesFrom_set P es n d e (i + 1) (by simpa using h) hp]
theorem vr (P:aL->Bool):∀ (es:List aL) (i:Int),(Hist.fEb P es i).Nodup
 | [],_=>.nil
 | e::es,i=>by
  rw [Hist.fEb];split
  ·refine List.nodup_cons.2 ⟨fun h=>?_,vr P es (i + 1)⟩;obtain ⟨n,_,_,h2,_⟩:=Hist.mem_placesFrom.1 h;omega
  ·exact vr P es (i + 1)
structure Log (k:KK) (log:List Int):Prop where
 mem:∀ i,i ∈ log↔∃ (n:Nat) (e:aL),k.events[n]? = some e/\i = n/\e.fIa > 0
 up:log.Pairwise (fun a b=>Hist.eff k.events a < Hist.eff k.events b)
 good:fKa.Good k.events k.p.s (PK.new k.p.s) log
 run:fKa.jrun k.events k.p.s (PK.new k.p.s) log = k.p
theorem Log.nodup {k:KK} {log:List Int} (L:Log k log):log.Nodup:=L.up.imp (fun h e=>by rw [e] at h; exact absurd h (Int.lt_irrefl _))
theorem iy.apart {k:KK} (E:iy k):Hist.Apart k.events:=by
 intro a b ha hb he;obtain ⟨n,d,h1,rfl,h2⟩:=Hist.mem_places.1 ha;obtain ⟨m,e,h3,rfl,h4⟩:=Hist.mem_places.1 hb;rw [Hist.eff_nat h1,Hist.eff_nat h3] at he;have:=E.ef n m d e h1 h3 (by simpa using h2) he;rw [this]
theorem Log.order {k:KK} {log:List Int} (E:iy k) (L:Log k log):log = Hist.order k.events:=by
 refine Hist.order_of E.apart ?_ (L.up.imp (fun h=>le_of_lt h));refine (List.perm_ext_iff_of_nodup L.nodup (vr _ _ _)).2 fun i=>?_;rw [L.mem];show _↔i ∈ Hist.places _ _;rw [Hist.mem_places];simp
theorem log_new (s:dc):Log (KK.new s) []:=by
 refine ⟨fun i=>?_,.nil,trivial,rfl⟩;simp [KK.new]
theorem Log.same {k k':KK} {log:List Int} (L:Log k log) (he:k'.events = k.events) (hp:k'.p = k.p):Log k' log:=by
 obtain ⟨a,b,c,d⟩:=L;exact ⟨fun i=>by rw [he]; exact a i,by rw [he]; exact b,by rw [he,hp]; exact c,by rw [he,hp]; exact d⟩
theorem iy.mayFrom {k:KK} (E:iy k):∀ (n:Nat) (es:List aL),k.events.drop n = es->∀ (uc:Int) (seen:List Int) (ends:List (Int × Int)),
  (∀ i e,i < n->k.events[i]? = some e->e.fTa <= uc\/n = 0)->(n = 0->uc = 0)->(0 < n->∃ e,k.events[n - 1]? = some e/\uc = e.fTa) ->
  (∀ x ∈ seen,∃ (i:Nat) (e:aL),i < n/\k.events[i]? = some e/\x = e.fIa) ->
  (∀ c v,Hist.endOf ends c = some v->∃ (i:Nat) (e:aL),i < n/\k.events[i]? = some e/\e.fOa = c/\v = e.fXa)->Hist.mayFrom k.p.s es uc seen ends = true
 | _,[],_,_,_,_,_,_,_,_,_=>rfl
 | n,e::es,hd,uc,seen,ends,h1,h2,h3,h4,h5=>by
  have hn:k.events[n]? = some e:=by
   have:=congrArg (fun l=>l[0]?) hd;simpa using this
  have o:=E.one n e hn;have hlast:uc < e.fTa:=by
   rcases Nat.eq_zero_or_pos n with h0 | h0
   ·rw [h2 h0]; have:=o.b0; omega
   ·obtain ⟨d,hd1,rfl⟩:=h3 h0;exact E.up (n - 1) n d e (by omega) hd1 hn
  have hone:dD e k.p.s uc = true:=by
   unfold dD;have c1:(((((decide (e.fOa < 0)) || (decide (e.fOa >= k.p.s.fRa))) || (decide (e.fBa < 0))) || (decide (e.fBa >= k.p.s.fHa))) || (decide (e.fTa <= uc))) = false:=by
    have:=o.c0; have:=o.c1; have:=o.v0; have:=o.v1;simp; omega
   rw [c1];simp only [cond_false];rcases o.st with s | s
   ·simp [s.1,s.2]
   ·have hb:=o.b0;have:(e.fIa == 0) = false:=by simp; omega
    rw [this];simp only [cond_false];simp; omega
  rw [Hist.mayFrom];rw [if_neg]
  ·rw [if_neg]
   ·refine iy.mayFrom E (n + 1) es ?_ e.fTa _ _ (fun i d hi hd1=>?_) (fun h=>by omega) (fun _=>⟨e,by simpa using hn,rfl⟩) (fun x hx=>?_) (fun c v hv=>?_)
    ·rw [← List.drop_drop,hd]; rfl
    ·left
     rcases lt_or_ge i n with h | h
     ·exact le_of_lt (E.up i n d e h hd1 hn)
     ·have:i = n:=by omega
      subst this; rw [hn] at hd1; cases hd1; exact Int.le_refl _
    ·rcases mem_cons.1 hx with rfl | hx
     ·exact ⟨n,e,by omega,hn,rfl⟩
     ·obtain ⟨i,d,a1,a2,a3⟩:=h4 x hx;exact ⟨i,d,by omega,a2,a3⟩
    ·unfold Hist.endOf at hv;rw [List.find?_cons] at hv;by_cases hc:(e.fOa == c) = true
     ·rw [hc] at hv;simp at hv;exact ⟨n,e,by omega,hn,by simpa using hc,hv.symm⟩
     ·have hc':(e.fOa == c) = false:=by simpa using hc
      rw [hc'] at hv;obtain ⟨i,d,a1,a2,a3⟩:=h5 c v hv;exact ⟨i,d,by omega,a2,a3⟩
   ·unfold Hist.stops;split
    ·rename_i v hv;obtain ⟨i,d,a1,a2,a3,rfl⟩:=h5 _ _ hv;have:=E.co i n d e a1 a2 hn a3;simp; omega
    ·simp
  ·rintro (h | ⟨h,hm⟩)
   ·rw [hone] at h; cases h
   ·obtain ⟨i,d,a1,a2,a3⟩:=h4 _ hm;have:=E.ef n i e d hn a2 h a3;omega
theorem iy.may {k:KK} (E:iy k):Hist.may k.events k.p.s = true :=
 E.mayFrom 0 k.events rfl 0 [] [] (fun i e h=>by omega) (fun _=>rfl) (fun h=>by omega) (fun x hx=>by cases hx) (fun c v hv=>by cases hv)
theorem right_of {k:KK} {log:List Int} (E:iy k) (L:Log k log):fKa.right k.events k.p.s = true/\fKa.linear k.events k.p.s = (-1,true)/\fKa.accesses k.events k.p.s = (-1,true):=by
 have h:∀ a b,fKa.run k.events k.p.s a b = (-1,true):=fun a b=>by
  unfold fKa.run;rw [if_pos E.may,← L.order E];exact fKa.run_good a b L.good
 refine ⟨?_,h true false,h false true⟩;unfold fKa.right fKa.linear fKa.accesses;rw [h,h]; rfl
end
section
open Go Mb
theorem ev_set {es:List aL} {n:Nat} {e0 e':aL} (h:es[n]? = some e0) (j:Int):fKa.ev (es.set n e') j = if j.toNat = n then e' else fKa.ev es j:=by
 have hlt:=(List.getElem?_eq_some_iff.1 h).1;simp only [fKa.ev,getD_eq_getElem?_getD,getElem?_set];by_cases e:n = j.toNat
 ·rw [if_pos e,if_pos e.symm,if_pos hlt]; rfl
 ·rw [if_neg e,if_neg (fun x=>e x.symm)]
theorem Log.effect {k k':KK} {log:List Int} (L:Log k log) {n:Nat} {e0:aL} {a:bY} {l:io} (h0:k.events[n]? = some e0) (hz:e0.fIa = 0) (hlate:∀ (i:Nat) e,k.events[i]? = some e->e.fTa < k.now/\e.fIa < k.now) (hn:0 < k.now)
  (he:k'.events = k.events.set n (KK.evend e0 k.now a l)) (hs:k'.p.s = k.p.s) (hg:fKa.good k'.events k.p.s k.p n) (hj:fKa.jstep k'.events k.p.s k.p n = k'.p):Log k' (log++[(n:Int)]):=by
 have hlt:=(List.getElem?_eq_some_iff.1 h0).1;have hev:=fun j=>ev_set (e':=KK.evend e0 k.now a l) h0 j;have alike:∀ i ∈ log,fKa.Alike k.events k'.events i:=by
  intro i hi;obtain ⟨m,e,g1,rfl,g2⟩:=(L.mem i).1 hi;have hmn:m ≠ n:=by rintro rfl; rw [h0] at g1; cases g1; omega
  have hl:=hlate m e g1;rw [he];refine ⟨by rw [hev,if_neg (by simpa using hmn)],?_,fun j _=>?_⟩
  ·rw [ev_get g1];unfold Hist.over Hist.places;refine placesFrom_set _ _ _ e0 _ _ h0 ?_;show (decide (e0.fTa <= e.fIa) && (k.now == 0 || decide (k.now > e.fIa))) = (decide (e0.fTa <= e.fIa) && (e0.fIa == 0 || decide (e0.fIa > e.fIa)))
   rw [hz,decide_eq_true (show k.now > e.fIa from hl.2)];simp
  ·rw [hev];split
   ·rename_i hjn;have:fKa.ev k.events j = e0:=by simp [fKa.ev,hjn,h0]
    rw [this]; exact ⟨rfl,rfl⟩
   ·exact ⟨rfl,rfl⟩
 obtain ⟨g1,g2⟩:=fKa.Good_alike alike L.good;have heff:∀ i,Hist.eff k'.events i = if i.toNat = n then k.now else Hist.eff k.events i:=by
  intro i;have:=hev i;show (fKa.ev k'.events i).fIa = _;rw [he,this];split <;> rfl
 have hin:∀ i ∈ log,i.toNat ≠ n/\Hist.eff k.events i < k.now:=by
  intro i hi;obtain ⟨m,e,g1,rfl,g2⟩:=(L.mem i).1 hi;refine ⟨fun h=>?_,by rw [Hist.eff_nat g1]; exact (hlate m e g1).2⟩;rw [toNat_natCast] at h;subst h; rw [h0] at g1; cases g1; omega
 refine ⟨fun i=>?_,?_,?_,?_⟩
 ·rw [mem_append,List.mem_singleton,L.mem,he];constructor
  ·rintro (⟨m,e,a1,rfl,a2⟩ | rfl)
   ·have hmn:m ≠ n:=by rintro rfl; rw [h0] at a1; cases a1; omega
    exact ⟨m,e,by rw [getElem?_set,if_neg (fun h=>hmn h.symm)]; exact a1,rfl,a2⟩
   ·exact ⟨n,KK.evend e0 k.now a l,by rw [getElem?_set,if_pos rfl,if_pos hlt],rfl,hn⟩
  ·rintro ⟨m,e,a1,rfl,a2⟩;rw [getElem?_set] at a1;by_cases h:n = m
   ·exact .inr (by rw [h])
   ·rw [if_neg h] at a1; exact .inl ⟨m,e,a1,rfl,a2⟩
 ·refine pairwise_append.2 ⟨?_,List.pairwise_singleton _ _,fun x hx y hy=>?_⟩
  ·refine L.up.imp_of_mem fun {x y} hx hy hxy=>?_;rw [heff,heff,if_neg (hin x hx).1,if_neg (hin y hy).1]; exact hxy
  ·rw [List.mem_singleton.1 hy,heff,heff,if_neg (hin x hx).1,if_pos (by simp)];exact (hin x hx).2
 ·rw [hs];refine fKa.Good_app g1 ?_;rw [g2,L.run]; exact hg
 ·rw [hs,fKa.jrun_app,g2,L.run]; exact hj
theorem Log.begin {k:KK} {log:List Int} (L:Log k log) (E:iy k) {e0:aL} (hb:k.now < e0.fTa) (hz:e0.fIa = 0) {k':KK} (he:k'.events = k.events++[e0]) (hp:k'.p = k.p):Log k' log:=by
 have alike:∀ i ∈ log,fKa.Alike k.events k'.events i:=by
  intro i hi;obtain ⟨m,e,g1,rfl,g2⟩:=(L.mem i).1 hi;have hm:=(List.getElem?_eq_some_iff.1 g1).1;have hev:∀ j:Int,0 <= j->j < k.events.length->fKa.ev (k.events++[e0]) j = fKa.ev k.events j:=by
   intro j h0 h1;simp only [fKa.ev,getD_eq_getElem?_getD];rw [getElem?_append_left (by omega)]
  rw [he];refine ⟨hev _ (by omega) (by omega),?_,fun j hj=>?_⟩
  ·rw [ev_get g1];unfold Hist.over Hist.places;rw [Hist.placesFrom_app,if_neg,List.append_nil];have o:=E.one m e g1;have:e.fIa <= k.now:=by
    rcases o.st with s | s
    ·have:=o.b0; have:=o.b1; omega
    ·exact s.2.2
   simp; omega
  ·have:=Hist.places_in hj;rw [hev j this.1 this.2]; exact ⟨rfl,rfl⟩
 obtain ⟨g1,g2⟩:=fKa.Good_alike alike L.good;have heff:∀ i ∈ log,Hist.eff k'.events i = Hist.eff k.events i:=fun i hi=>by
  show (fKa.ev k'.events i).fIa = (fKa.ev k.events i).fIa;rw [(alike i hi).e]
 refine ⟨fun i=>?_,L.up.imp_of_mem fun {x y} hx hy hxy=>by rw [heff x hx,heff y hy]; exact hxy,by rw [hp]; exact g1,by rw [hp,g2]; exact L.run⟩;rw [L.mem,he];constructor
 ·rintro ⟨m,e,a1,rfl,a2⟩;exact ⟨m,e,by rw [getElem?_append_left (List.getElem?_eq_some_iff.1 a1).1]; exact a1,rfl,a2⟩
 ·rintro ⟨m,e,a1,rfl,a2⟩;rcases lt_or_ge m k.events.length with h | h
  ·rw [getElem?_append_left h] at a1; exact ⟨m,e,a1,rfl,a2⟩
  ·rw [getElem?_append_right h] at a1;by_cases e1:m - k.events.length = 0
   ·rw [e1] at a1;simp at a1;rw [← a1] at a2; omega
   ·rw [List.getElem?_eq_none (by simp; omega)] at a1; cases a1
structure All (k:KK):Prop extends IE k where
 lg:∃ log,Log k log
theorem all_new {s:dc} (h:PK.sized s = true):All (KK.new s):=⟨ie_new h,[],log_new s⟩
theorem All.begin {k:KK} (A:All k) (hn:k.now < 2 ^ 40) (core env:Int) {c:bv} (cw:Cw c):All (KK.begin_ k core env c).2:=by
 refine ⟨A.toIE.begin hn core env cw,?_⟩;obtain ⟨log,L⟩:=A.lg;refine ⟨log,?_⟩;have hw:=vJ A.inv.ok.n0 hn;unfold KK.begin_;split
 ·exact L
 ·rw [hw];exact L.begin A.ev (e0:=KK.ev0 core env c (k.now + 1)) (by show k.now < k.now + 1; omega) rfl rfl rfl
theorem All.evict {k:KK} (A:All k) (hn:k.now < 2 ^ 40) (c s w:Int):All (KK.evict k c s w).2:=by
 have he:(KK.evict k c s w).2.events = k.events/\(KK.evict k c s w).2.p = k.p:=by
  unfold KK.evict;split
  ·exact ⟨rfl,rfl⟩
  ·split <;> exact ⟨rfl,rfl⟩
 obtain ⟨log,L⟩:=A.lg;exact ⟨A.toIE.evict hn c s w,log,L.same he.1 he.2⟩
theorem All.post {k:KK} (A:All k) (hn:k.now < 2 ^ 40) (c:Int):All (KK.post k c).2:=by
 have he:(KK.post k c).2.events = k.events/\(KK.post k c).2.p = k.p:=by
  unfold KK.post;split
  ·exact ⟨rfl,rfl⟩
  ·split <;> exact ⟨rfl,rfl⟩
 obtain ⟨log,L⟩:=A.lg;exact ⟨A.toIE.post hn c,log,L.same he.1 he.2⟩
theorem All.tick {k:KK} (A:All k) (hn:k.now < 2 ^ 40):All (KK.tick k):=by
 obtain ⟨log,L⟩:=A.lg;exact ⟨⟨A.inv.tick hn,tick_ev A.inv.ok A.ev hn⟩,log,L.same rfl rfl⟩
theorem work_log {k:KK} (A:All k) (hlate:∀ (i:Nat) e,k.events[i]? = some e->e.fTa < k.now/\e.fIa < k.now) (hn0:0 < k.now) {c:Nat} {x:KC} (hx:KK.call k c = some x) (hi:KK.is k c = true):∃ log,Log (KK.work k c x) log:=by
 have hc:c < k.calls.length:=by obtain ⟨n,e,h⟩:=jD hi; omega
 have hcx:=qi hx;obtain ⟨log,L⟩:=A.lg;obtain ⟨n,hn,e0,g1,g2,g3,g4,g5⟩:=A.ev.call c x hcx;have setev:∀ (m:KK) (a:bY) (l:io),m.events = k.events->m.now = k.now->(KK.ends m c x a l).events = k.events.set n (KK.evend e0 k.now a l):=by
  intro m a l h1 h2;unfold KK.ends;rw [h1,h2,hn];simp only [toNat_natCast,getD_eq_getElem?_getD,g1,getD_some]
 have hev:∀ a l,fKa.ev (k.events.set n (KK.evend e0 k.now a l)) n = KK.evend e0 k.now a l:=fun a l=>by rw [ev_set g1,if_pos (by simp)]
 have juser:∀ a l,bQ (KK.evend e0 k.now a l) = aQ (am x.fc).1:=fun a l=>by
  unfold bQ;show aQ (am e0.fJa).1 = _;rw [g4]
 unfold KK.work;by_cases hu:aQ (am x.fc).1 = true
 ·rw [if_pos hu];obtain ⟨h1,h2,h3,_,_⟩:=uX k c x;have he:=setev (KK.access k c x).2 (KK.access k c x).1.1 (KK.access k c x).1.2 h1 h2;refine ⟨log++[(n:Int)],?_⟩;have ag:=access_good A.inv hc hcx hu (es:=k.events.set n (KK.evend e0 k.now (KK.access k c x).1.1 (KK.access k c x).1.2)) (e:=KK.evend e0 k.now (KK.access k c x).1.1 (KK.access k c x).1.2) g4 g3 rfl rfl ?_
  ·refine L.effect g1 g5 hlate hn0 he h3 ?_ ?_
   ·rw [he];unfold fKa.good;rw [hev,juser,hu];exact ⟨fun _=>ag.1,fun h=>(by cases h)⟩
   ·rw [he];unfold fKa.jstep;rw [hev,juser,if_pos hu];exact ag.2
  ·rintro d y ⟨hy,hty⟩;obtain ⟨m,hm,ey,f1,f2,f3,f4,f5⟩:=A.ev.call d y hy;have hmn:m ≠ n:=by
    rintro rfl;rw [g1] at f1;cases f1;have:d = c:=by omega
    subst this;rw [hcx] at hy;cases hy;have T:=A.inv.teller ⟨hcx,hty⟩;have w:=qn A.inv.en.1 A.inv.en.2 T.k;have ht:=T.t;rw [oN w.kind] at hu;unfold aQ at hu;unfold Tk at ht;simp at hu;omega
   have hge:(k.events.set n (KK.evend e0 k.now (KK.access k c x).1.1 (KK.access k c x).1.2))[m]? = some ey:=by rw [getElem?_set,if_neg (fun h=>hmn h.symm)]; exact f1
   rw [hm];refine ⟨?_,?_,?_⟩
   ·unfold Hist.over;rw [Hist.mem_places];refine ⟨m,ey,hge,rfl,?_⟩;have:=(hlate m ey f1).1;show (decide (ey.fTa <= k.now) && (ey.fIa == 0 || decide (ey.fIa > k.now))) = true;rw [f5]; simp; omega
   ·rw [ev_get hge]; exact f4
   ·rw [ev_get hge]; exact f3
 ·rw [if_neg hu];have hu':aQ (am x.fc).1 = false:=by simpa using hu
  split
  ·exact ⟨log,L.same rfl rfl⟩
  ·split
   ·exact ⟨log,L⟩
   ·split
    ·rename_i hdone;have he:=setev { k with p:=(PK.do_ k.p x.fFa x.fc).2 } (PK.do_ k.p x.fFa x.fc).1.1 iP rfl rfl;refine ⟨log++[(n:Int)],L.effect g1 g5 hlate hn0 he (do_s _ _ _) ?_ ?_⟩
     ·rw [he];unfold fKa.good;rw [hev,juser,hu'];refine ⟨fun h=>(by cases h),fun _=>?_⟩;show (PK.do_ k.p e0.fBa e0.fJa).1.2 = true/\(PK.do_ k.p e0.fBa e0.fJa).1.1 = (PK.do_ k.p x.fFa x.fc).1.1;rw [g3,g4];exact ⟨hdone,rfl⟩
     ·rw [he];unfold fKa.jstep;rw [hev,juser,if_neg hu];show (PK.do_ k.p e0.fBa e0.fJa).2 = (PK.do_ k.p x.fFa x.fc).2;rw [g3,g4]
    ·rename_i hdone;rw [do_wait (by simpa using hdone)];exact ⟨log,L⟩
theorem All.step {k:KK} (A:All k) (hn:k.now < 2 ^ 40) (c:Int):All (KK.step k c).2:=by
 refine ⟨A.toIE.step hn c,?_⟩;unfold KK.step;split
 ·exact A.lg
 ·rename_i hb;obtain ⟨hi,x,hx⟩:=busy_is (by simpa using hb);rw [hx];obtain ⟨n,rfl,_⟩:=jD hi;have h0:=A.inv.ok.n0;exact work_log (A.tick hn) (tick_late A.inv.ok A.ev hn) (by rw [tick_now A.inv.ok hn]; omega) hx hi
theorem All.right {k:KK} (A:All k):fKa.right k.events k.p.s = true/\fKa.linear k.events k.p.s = (-1,true)/\fKa.accesses k.events k.p.s = (-1,true):=by
 obtain ⟨log,L⟩:=A.lg;exact right_of A.ev L
end
section
open Go Mb
namespace KK
def lastE (c:Int):List aL->aL->aL
 | [],e=>e
 | x::es,e=>lastE c es (if x.fOa = c then x else e)
def uc (k:KK) (c:Int):aL:=lastE c k.events ⟨0,0,⟨0,0,0,0,0⟩,0,0,0,⟨0,0⟩,⟨0,0,0,0⟩⟩
end KK
end
section
open Go Mb
inductive Stp (k:KK) (c:Nat) (x:KC) (k':KK):Prop
 | wait (y:KC) (he:k'.events = k.events) (hp:k'.p = k.p) (hc:k'.calls = k.calls.set c (some y)) (h1:y.fc = x.fc) (h2:y.fFa = x.fFa) (h3:y.fat = x.fat)
 | user (m:Nat) (e0:aL) (h0:k.events[m]? = some e0) (hm:x.fat = (m:Nat)) (hz:e0.fIa = 0) (hcl:e0.fJa = x.fc) (hen:e0.fBa = x.fFa) (hco:e0.fOa = c) (hu:aQ (am x.fc).1 = true)
   (he:k'.events = k.events.set m (KK.evend e0 (k.now + 1) (KK.access (KK.tick k) c x).1.1 (KK.access (KK.tick k) c x).1.2)) (hp:k'.p = (KK.access (KK.tick k) c x).2.p) (hc:k'.calls = k.calls.set c none)
 | does (m:Nat) (e0:aL) (h0:k.events[m]? = some e0) (hm:x.fat = (m:Nat)) (hz:e0.fIa = 0) (hcl:e0.fJa = x.fc) (hen:e0.fBa = x.fFa) (hco:e0.fOa = c) (hu:aQ (am x.fc).1 = false)
   (he:k'.events = k.events.set m (KK.evend e0 (k.now + 1) (PK.do_ k.p x.fFa x.fc).1.1 iP)) (hp:k'.p = (PK.do_ k.p x.fFa x.fc).2) (hc:k'.calls = k.calls.set c none)
theorem set_some {α:Type} {l:List (Option α)} {c:Nat} {x:α} (h:l[c]? = some (some x)):l = l.set c (some x):=by
 refine List.ext_getElem? fun i=>?_;rw [getElem?_set];split
 ·rename_i e; subst e;rw [if_pos (List.getElem?_eq_some_iff.1 h).1,h]
 ·rfl
theorem step_stp {k:KK} (A:IE k) (hn:k.now < 2 ^ 40) {c:Nat} {x:KC} (hx:k.calls[c]? = some (some x)):Stp k c x (KK.step k c).2:=by
 have hc:=(List.getElem?_eq_some_iff.1 hx).1;obtain ⟨m,hm,e0,g1,g2,g3,g4,g5⟩:=A.ev.call c x hx;have hi:KK.is k c = true:=by unfold KK.is; exact decide_eq_true (by omega)
 have hcall:KK.call k c = some x:=by unfold KK.call; rw [toNat_natCast,getD_eq_getElem?_getD,hx]; rfl
 have hb:KK.busy k c = true:=by unfold KK.busy; rw [hi,hcall]; rfl
 have hnow:=tick_now A.inv.ok hn;have hst:(KK.step k c).2 = KK.work (KK.tick k) c x:=by
  unfold KK.step;rw [if_neg (by rw [hb]; simp),hcall]
 have hcn:((c:Int)).toNat = c:=toNat_natCast c;rw [hst];have setev:∀ (q:KK) (a:bY) (l:io),q.events = k.events->q.now = k.now + 1->(KK.ends q c x a l).events = k.events.set m (KK.evend e0 (k.now + 1) a l):=by
  intro q a l h1 h2;unfold KK.ends;rw [h1,h2,hm];simp only [toNat_natCast,getD_eq_getElem?_getD,g1,getD_some]
 unfold KK.work;by_cases hu:aQ (am x.fc).1 = true
 ·rw [if_pos hu];obtain ⟨h1,h2,h3,h4,_⟩:=uX (KK.tick k) c x;refine .user m e0 g1 hm g5 g4 g3 g2 hu (setev _ _ _ h1 (by rw [h2,hnow])) rfl ?_;show (KK.access (KK.tick k) c x).2.calls.set (c:Int).toNat none = _;rw [h4,hcn]; rfl
 ·rw [if_neg hu];have hu':aQ (am x.fc).1 = false:=by simpa using hu
  split
  ·refine .wait { x with fQa:=true,fBb:=(fNa.begin_ (KK.tick k).fGa c).1.1 } rfl rfl ?_ rfl rfl rfl;show (k.calls.set (c:Int).toNat _).set (c:Int).toNat _ = _;rw [hcn,List.set_set]; rfl
  ·split
   ·exact .wait x rfl rfl (set_some hx) rfl rfl rfl
   ·split
    ·refine .does m e0 g1 hm g5 g4 g3 g2 hu' (setev _ _ _ rfl hnow) rfl ?_;show k.calls.set (c:Int).toNat none = _;rw [hcn]
    ·rename_i hd;refine .wait x rfl ?_ (set_some hx) rfl rfl rfl;show (PK.do_ k.p x.fFa x.fc).2 = k.p;exact do_wait (by have h2:¬ (PK.do_ k.p x.fFa x.fc).1.2 = true:=hd; simpa using h2)
theorem step_not {k:KK} {c:Int} (h:KK.busy k c = false):(KK.step k c).2 = k:=by unfold KK.step; rw [if_pos h]
theorem step_or {k:KK} (A:IE k) (hn:k.now < 2 ^ 40) (c:Int):(KK.step k c).2 = k\/∃ (d:Nat) (x:KC),c = d/\k.calls[d]? = some (some x)/\Stp k d x (KK.step k c).2:=by
 cases hb:KK.busy k c with
 | false=>exact .inl (step_not hb)
 | true =>
  obtain ⟨hi,x,hx⟩:=busy_is hb;obtain ⟨n,rfl,_⟩:=jD hi;exact .inr ⟨n,x,rfl,qi hx,step_stp A hn (qi hx)⟩
theorem post_same (k:KK) (c:Int):(KK.post k c).2.events = k.events/\(KK.post k c).2.p = k.p/\(KK.post k c).2.calls = k.calls:=by
 unfold KK.post;split
 ·exact ⟨rfl,rfl,rfl⟩
 ·split <;> exact ⟨rfl,rfl,rfl⟩
theorem begin_or {k:KK} (A:IE k) (hn:k.now < 2 ^ 40) (core env:Int) (c:bv):((KK.begin_ k core env c).1 = false/\(KK.begin_ k core env c).2 = k) \/
  ((KK.begin_ k core env c).1 = true/\∃ d:Nat,core = d/\d < k.calls.length/\k.calls[d]? = some none/\0 <= env/\env < k.p.s.fHa/\(KK.begin_ k core env c).2.events = k.events++[KK.ev0 core env c (k.now + 1)]/\(KK.begin_ k core env c).2.p = k.p/\(KK.begin_ k core env c).2.calls = k.calls.set d (some ⟨k.events.length,env,c,false,0⟩)/\(KK.begin_ k core env c).2.fGa = k.fGa):=by
 have hw:=vJ A.inv.ok.n0 hn;unfold KK.begin_;split
 ·exact .inl ⟨rfl,rfl⟩
 ·rename_i h;simp only [not_or,Bool.not_eq_true,Bool.not_eq_false] at h;obtain ⟨h1,h2,h3,h4⟩:=h;obtain ⟨d,rfl,hd⟩:=jD h1;refine .inr ⟨rfl,d,rfl,hd,?_,by omega,by omega,by rw [hw],rfl,by rw [toNat_natCast],rfl⟩;cases hc:k.calls[d]? with
  | none=>rw [List.getElem?_eq_none_iff] at hc; omega
  | some o =>
   cases o with
   | none=>rfl
   | some x =>
    have:KK.busy k d = true:=(busy_nat hd).2 ⟨x,hc⟩;rw [this] at h2; cases h2
theorem access_or {k:KK} (I:dJ k) {c:Nat} (hc:c < k.calls.length) {x:KC} (hw:Word.check x.fc k.p.s.fHa = 0) (hkind:20 <= i64.wrap x.fc.e0/\i64.wrap x.fc.e0 <= 23) :
  ((KK.access k c x).1.1 = ⟨7,0⟩/\(KK.access k c x).2.p = k.p/\(KK.fYa k c x).1.2 = false) \/
  ∃ l:io,Cov (PK.q k.p x.fFa (i64.wrap x.fc.e1)) l/\bk l.fCa (i64.wrap x.fc.e0) = true/\(KK.access k c x).1.1 = (PK.touch k.p (PK.q k.p x.fFa (i64.wrap x.fc.e1)).fEa x.fc).1.1/\(KK.access k c x).2.p = (PK.touch k.p (PK.q k.p x.fFa (i64.wrap x.fc.e1)).fEa x.fc).2:=by
 unfold KK.access;rw [if_neg (by rw [hw]; simp)];cases hf:(KK.fYa k c x).1.2 with
 | false=>exact .inl ⟨rfl,rfl,rfl⟩
 | true =>
  obtain ⟨h1,_,_,h4⟩:=walk_cov I hc hf hkind;rw [if_neg (by simp)];refine .inr ⟨_,h1,h4,?_,?_⟩
  ·show (PK.touch k.p (KK.fYa k c x).1.1.fEa x.fc).1.1 = _;rw [h1.f]
  ·show (PK.touch k.p (KK.fYa k c x).1.1.fEa x.fc).2 = _;rw [h1.f]
theorem lines_len {k:KK} (A:dJ k) {c:Nat} (hc:c < k.calls.length):(KK.lines k c).length = 8:=by
 unfold KK.lines;rw [if_pos (by unfold KK.is; exact decide_eq_true (by omega)),tO];have:=(A.tok c hc).len;unfold Tlb.lines;simpa using this
theorem tick_p (k:KK):(KK.tick k).p = k.p:=rfl
structure Usr (fc:bv) (n:Int):Prop where
 chk:Word.check fc n = 0
 usr:aQ (am fc).1 = true
 kind:20 <= i64.wrap fc.e0/\i64.wrap fc.e0 <= 23
 cw:Cw fc
 n9:fc.e0 ≠ 9
structure Lone (i:Nat) (core a:Int) (fc:bv) (p0:PK) (k:KK):Prop extends All k where
 pe:k.p = p0
 q0:(PK.q p0 a (i64.wrap fc.e1)).fCa = 0
 call:∀ (d:Nat) x,k.calls[d]? = some (some x)->x.fc = fc/\x.fFa = a
 len:k.events.length = i + 1
 le:∃ e,k.events[i]? = some e/\e.fOa = core/\(e.fIa ≠ 0->e.fCb = ⟨7,0⟩)
theorem Lone.post {i:Nat} {core a:Int} {fc:bv} {p0:PK} {k:KK} (L:Lone i core a fc p0 k) (hn:k.now < 2 ^ 40) (c:Int):Lone i core a fc p0 (KK.post k c).2:=by
 obtain ⟨h1,h2,h3⟩:=post_same k c;exact ⟨L.toAll.post hn c,by rw [h2]; exact L.pe,L.q0,by rw [h3]; exact L.call,by rw [h1]; exact L.len,by rw [h1]; exact L.le⟩
theorem set_calls {l:List (Option KC)} {c:Nat} {o:Option KC} {P:Nat->KC->Prop} (h:∀ (d:Nat) x,l[d]? = some (some x)->P d x) (ho:∀ x,o = some x->P c x):∀ (d:Nat) x,(l.set c o)[d]? = some (some x)->P d x:=by
 intro d x hd;rw [getElem?_set] at hd;split at hd
 ·rename_i e; subst e;split at hd
  ·simp only [Option.some.injEq] at hd;exact ho x hd
  ·cases hd
 ·exact h d x hd
theorem Lone.step {i:Nat} {core a:Int} {fc:bv} {p0:PK} {k:KK} (U:Usr fc p0.s.fHa) (L:Lone i core a fc p0 k) (hn:k.now < 2 ^ 40) (c:Int):Lone i core a fc p0 (KK.step k c).2:=by
 rcases step_or L.toIE hn c with h | ⟨d,x,rfl,hx,st⟩
 ·rw [h]; exact L
 have hA:=L.toAll.step hn d;obtain ⟨hc1,hc2⟩:=L.call d x hx;have hdl:=(List.getElem?_eq_some_iff.1 hx).1;cases st with
 | wait y he hp' hc h1 h2 h3 =>
  refine ⟨hA,by rw [hp']; exact L.pe,L.q0,?_,by rw [he]; exact L.len,by rw [he]; exact L.le⟩;rw [hc];refine set_calls (P:=fun _ x=>x.fc = fc/\x.fFa = a) L.call fun z hz=>?_;cases hz;exact ⟨by rw [h1]; exact hc1,by rw [h2]; exact hc2⟩
 | user m e0 h0 hm hz hcl hen hco hu he hp' hc =>
  have I:=L.inv.tick hn;have ac:=access_or I (c:=d) (by exact hdl) (x:=x) (by rw [hc1]; show Word.check fc k.p.s.fHa = 0; rw [L.pe]; exact U.chk) (by rw [hc1]; exact U.kind);have hans:(KK.access (KK.tick k) d x).1.1 = ⟨7,0⟩/\(KK.access (KK.tick k) d x).2.p = k.p:=by
   rcases ac with h | ⟨l,h1,_⟩
   ·exact ⟨h.1,h.2.1⟩
   ·rw [hc1,hc2] at h1;have h2:=h1.r;have h3:=L.q0;rw [tick_p,L.pe] at h2;omega
  refine ⟨hA,by rw [hp',hans.2]; exact L.pe,L.q0,?_,by rw [he,List.length_set]; exact L.len,?_⟩
  ·rw [hc];exact set_calls (P:=fun _ x=>x.fc = fc/\x.fFa = a) L.call fun z hz=>by cases hz
  ·obtain ⟨e,g1,g2,g3⟩:=L.le;rw [he];by_cases hmi:m = i
   ·subst hmi;rw [h0] at g1;cases g1;refine ⟨KK.evend e0 (k.now + 1) (KK.access (KK.tick k) d x).1.1 (KK.access (KK.tick k) d x).1.2,?_,g2,fun _=>hans.1⟩;rw [getElem?_set,if_pos rfl,if_pos (List.getElem?_eq_some_iff.1 h0).1]
   ·exact ⟨e,by rw [getElem?_set,if_neg hmi]; exact g1,g2,g3⟩
 | does m e0 h0 hm hz hcl hen hco hu he hp' hc =>
  rw [hc1,U.usr] at hu;cases hu
end
section
open Go Mb
theorem sp_tlb_Evict (x:Ptr) (t:List TL × Int) (s w:Int):Sp prog rA [pv x,.int .i64 s,.int .i64 w] ai [dZ x t] (fun r=>pa_ (r = (Tlb.evict t s w).1) [dZ x (Tlb.evict t s w).2]):=by
 intro h s0;obtain ⟨b,rfl,hb,st⟩:=mW s0;refine sim_tlb_Tlb_Evict _ _ _ ?_;unfold wo;refine ar (fun k=>?_) (fun k=>?_)
 ·have k':¬ (s < 0\/s >= 4\/w < 0\/w >= 2):=by simp at k; omega
  obtain ⟨i,rfl⟩:=Int.eq_ofNat_of_zero_le (show 0 <= s by omega);obtain ⟨j,rfl⟩:=Int.eq_ofNat_of_zero_le (show 0 <= w by omega);have hi:i * 2 + j < t.1.length:=by rw [hb]; omega
  refine bn ⟨⟨by omega,by omega⟩,⟨by omega,by omega⟩,?_⟩;refine ld_a (j:=0) (i:=i * 2 + j) (k:=0) t.1[i * 2 + j].fl.fBa gN st rfl (by simp; omega) (al hi) (c1 rfl rfl) ?_;have hat:Tlb.ln t.1 ((i:Int).toNat * 2 + (j:Int).toNat) = t.1[i * 2 + j]:=ln_get hi;refine ar (fun k2=>?_) (fun k2=>?_)
  ·have e1:Tlb.evict t i j = (false,t):=by unfold Tlb.evict; rw [if_neg k',hat,if_pos (by simpa using k2)]
   rw [e1];exact aw rfl (pO hb st)
  ·have e1:Tlb.evict t i j = (true,t.1.set (i * 2 + j) { t.1[i * 2 + j] with fl:=cm },t.2):=by unfold Tlb.evict; rw [if_neg k',hat,if_neg (by simpa using k2)]; rfl
   rw [e1];refine st_a (j:=0) (i:=i * 2 + j) (k:=0) { t.1[i * 2 + j] with fl:=cm } gN st rfl (by simp; omega) (al hi) (by simp [an.C]) rfl fun h2 s4=>?_;exact aw rfl (pO (t:=(t.1.set (i * 2 + j) { t.1[i * 2 + j] with fl:=cm },t.2)) (by simpa using hb) s4)
 ·have k':s < 0\/s >= 4\/w < 0\/w >= 2:=by simp at k; omega
  have e1:Tlb.evict t s w = (false,t):=if_pos k';rw [e1];exact aw rfl (pO hb st)
theorem sp_kern_Evict (x:Ptr) (k:KK) (c s w:Int) (hn:k.now < 2 ^ 37):Sp prog oE [pv x,.int .i64 c,.int .i64 s,.int .i64 w] ai [bu x k] (fun r=>pa_ (r = (KK.evict k c s w).1) [bu x (KK.evict k c s w).2]):=by
 intro h s0;refine sim_kern_Kern_Evict _ _ _ _ ?_;unfold tq;refine aW (pT x k c) (i:=0) rfl s0 fun r h1 hr s1=>?_;subst hr;refine ar (fun d=>?_) (fun d=>?_)
 ·have d':KK.is k c = true:=by simpa using d
  obtain ⟨z,rfl,zo,ok,st⟩:=qw s1;have okp:=kok_evict ok (by omega) c s w;obtain ⟨n,rfl,hnc⟩:=is_nat d';obtain ⟨l1,l2,l3,l4,l5⟩:=kk_len ok;have hct:n < k.fMa.length:=by omega
  have hcp:n < z.tp.length:=by rw [zo.t]; exact hct
  have hts:=(aX (j:=2) st rfl).1;have hbuf:KK.buf k n = k.fMa[n]:=buf_nat hct;refine bn (aJ z.ts st (i:=0) rfl rfl rfl ?_);refine bE st (j:=2) rfl (by omega) (by omega) fun q hq=>?_;refine bK (j:=2) (i:=n) (k:=0) z.tp[n] fu st rfl hq (by simp) (al hcp) (by simp) ?_;have s2:=gJ (al hcp) (al hct) (aA [3] st rfl);refine aW (sp_tlb_Evict z.tp[n] k.fMa[n] s w) (i:=0) rfl s2 fun r h3 hr s3=>?_;subst hr;refine ar (fun d2=>?_) (fun d2=>?_)
  ·have d2':(Tlb.evict k.fMa[n] s w).1 = false:=by simpa using d2
   have e1:KK.evict k n s w = (false,k):=by unfold KK.evict; rw [if_neg (by simp [d']),hbuf,if_pos d2']
   have e2:(Tlb.evict k.fMa[n] s w).2 = k.fMa[n]:=by
    unfold Tlb.evict at d2' ⊢;split
    ·rfl
    ·split
     ·rfl
     ·rename_i h4 h5; rw [if_neg h4,if_neg h5] at d2'; cases d2'
   rw [e1];rw [e2] at s3;exact aw rfl (lV zo ok (aA [1,1,1] (rv (al hcp) (al hct) zo.t s3) rfl))
  ·have e1:KK.evict k n s w = (true,{ KK.tick k with fMa:=k.fMa.set n (Tlb.evict k.fMa[n] s w).2 }):=by unfold KK.evict; rw [if_neg (by simp [d']),hbuf,if_neg (by simpa using d2)]; rfl
   rw [e1] at okp ⊢;have s4:=vF (al hcp) hct zo.t s3;refine aJ k.now s4 (i:=1) rfl rfl rfl ?_;refine mX (i:=1) s4 rfl (Nat.le_of_ble_eq_true rfl) fun h5 s5=>?_;exact aw rfl (lV (z:=z) (k:={ KK.tick k with fMa:=_ }) ⟨by simpa using zo.t,zo.c⟩ okp (aA [1,1,1] s5 rfl))
 ·have e1:KK.evict k c s w = (false,k):=if_pos (by simpa using d);rw [e1]; exact aw rfl s1
end
section
open Go Mb
section pure
variable {key:Int->Int}
theorem up_ins {a1 a2:List Int} {y:Int} (h:Up key (a1++a2)) (h1:∀ x ∈ a1,key x <= key y) (h2:∀ x ∈ a2,key y <= key x):Up key (a1++y::a2):=by
 obtain ⟨p1,p2,p3⟩:=pairwise_append.1 h;refine pairwise_append.2 ⟨p1,List.pairwise_cons.2 ⟨h2,p2⟩,fun x hx z hz=>?_⟩;rcases mem_cons.1 hz with rfl | hz
 ·exact h1 x hx
 ·exact p3 x hx z hz
theorem up_join {u1 u2 v1 v2 w1 w2:List Int} (hu:Up key (u1++u2)) (hv:Up key (v1++v2)) (h12:∀ x ∈ u1,∀ y ∈ v2,key x <= key y) (h21:∀ x ∈ v1,∀ y ∈ u2,key x <= key y) (p1:w1.Perm (u1++v1)) (p2:w2.Perm (u2++v2)) (s1:Up key w1) (s2:Up key w2):Up key (w1++w2):=by
 refine pairwise_append.2 ⟨s1,s2,fun x hx y hy=>?_⟩;rcases mem_append.1 (p1.subset hx) with hx | hx <;> rcases mem_append.1 (p2.subset hy) with hy | hy
 ·exact (pairwise_append.1 hu).2.2 x hx y hy
 ·exact h12 x hx y hy
 ·exact h21 x hx y hy
 ·exact (pairwise_append.1 hv).2.2 x hx y hy
theorem perm_join {u1 u2 v1 v2 w1 w2:List Int} (p1:w1.Perm (u1++v1)) (p2:w2.Perm (u2++v2)):(w1++w2).Perm ((u1++u2)++(v1++v2)):=by
 refine (p1.append p2).trans ?_;have:((u1++v1)++(u2++v2)) = u1++((v1++u2)++v2):=by simp
 rw [this];have:((u1++u2)++(v1++v2)) = u1++((u2++v1)++v2):=by simp
 rw [this];exact ((List.perm_append_comm).append_right v2).append_left u1
theorem up_take {l:List Int} (h:Up key l) {i:Nat} {z x:Int} (hz:l[i]? = some z) (hx:x ∈ l.take (i + 1)):key x <= key z:=by
 obtain ⟨hi,rfl⟩:=List.getElem?_eq_some_iff.1 hz;obtain ⟨j,hj,rfl⟩:=List.getElem_of_mem hx;rw [length_take] at hj;rw [List.getElem_take];rcases lt_or_ge j i with h1 | h1
 ·exact List.pairwise_iff_getElem.1 h j i (by omega) hi h1
 ·have:j = i:=by omega
  subst this; exact Int.le_refl _
theorem up_drop {l:List Int} (h:Up key l) {i:Nat} {z x:Int} (hz:l[i]? = some z) (hx:x ∈ l.drop i):key z <= key x:=by
 obtain ⟨hi,rfl⟩:=List.getElem?_eq_some_iff.1 hz;obtain ⟨j,hj,rfl⟩:=List.getElem_of_mem hx;rw [length_drop] at hj;rw [List.getElem_drop];rcases Nat.eq_zero_or_pos j with h1 | h1
 ·subst h1; exact Int.le_refl _
 ·exact List.pairwise_iff_getElem.1 h i (i + j) hi (by omega) (by omega)
end pure
def hf (x y:Int):Int:=i64.wrap (fdiv (u64.wrap (i64.wrap (x + y))) (2 ^ (min (Int.toNat 1) (IntKind.bits .u64))))
section
variable (s:Sl) (f:Value) (A:List As)
theorem sp_swapRange (x u y v z:List Int) (hl:u.length = v.length) (hb:x.length + u.length + y.length + v.length + z.length < 2 ^ 60) :
  Sp prog bZ [sv s,.int .i64 x.length,.int .i64 (x.length + u.length + y.length:Nat),.int .i64 u.length,f] R_ (vI s (x++(u++(y++(v++z))))::A) (fun _ h=>ah (vI s (x++(v++(y++(u++z))))::A) h):=by
 intro h s0;refine oT _ _ _ _ _ ?_;unfold iE;refine Lp.intro (fun (i:Int) h=>∃ u1 u2 v1 v2:List Int,u1++u2 = u/\v1++v2 = v/\u1.length = v1.length/\i = ((u1.length:Nat):Int)/\ah (vI s (x++((v1++u2)++(y++((u1++v2)++z))))::A) h) (fun (i:Int) _=>u.length - i.toNat) ⟨[],u,[],v,rfl,rfl,rfl,rfl,s0⟩ ?_;rintro i h1 ⟨u1,u2,v1,v2,rfl,rfl,h11,rfl,s1⟩;simp only [length_append] at hl hb ⊢;unfold eO;refine ar (fun k=>?_) (fun k=>?_)
 ·have hlt:0 < u2.length:=by have:=of_decide_eq_true k; omega
  obtain ⟨a,u2,rfl⟩:=List.exists_cons_of_length_pos hlt;have hlv:0 < v2.length:=by simp at hl; omega
  obtain ⟨b,v2,rfl⟩:=List.exists_cons_of_length_pos hlv;simp only [List.length_cons] at hl hb ⊢;have w1:i64.wrap (((x.length + (u1.length + (u2.length + 1)) + y.length:Nat):Int) + ((u1.length:Nat):Int)) = ((x.length + (u1.length + (u2.length + 1)) + y.length + u1.length:Nat):Int):=by rw [aE (by omega) (by omega)]; omega
  have w2:i64.wrap (((x.length:Nat):Int) + ((u1.length:Nat):Int)) = ((x.length + u1.length:Nat):Int):=by rw [aE (by omega) (by omega)]; omega
  have w3:i64.wrap (((u1.length:Nat):Int) + 1) = ((u1.length + 1:Nat):Int):=by rw [aE (by omega) (by omega)]; omega
  rw [w1,w2,w3];have d1:x++((v1++a::u2)++(y++((u1++b::v2)++z))) = (x++v1)++a::(u2++(y++((u1++b::v2)++z))):=by simp
  have d2:(x++v1)++a::(u2++(y++((u1++b::v2)++z))) = (x++v1++a::u2++y++u1)++b::(v2++z):=by simp
  have d3:(x++v1)++b::(u2++(y++((u1++b::v2)++z))) = (x++v1++b::u2++y++u1)++b::(v2++z):=by simp
  have i1:x.length + u1.length = (x++v1).length:=by simp; omega
  have i2:x.length + (u1.length + (u2.length + 1)) + y.length + u1.length = (x++v1++a::u2++y++u1).length:=by simp; omega
  have i3:(x++v1++a::u2++y++u1).length = (x++v1++b::u2++y++u1).length:=by simp
  rw [d1] at s1;have g1:((x++v1)++a::(u2++(y++((u1++b::v2)++z))))[x.length + u1.length]? = some a:=by rw [i1]; exact oL
  have g2:((x++v1)++a::(u2++(y++((u1++b::v2)++z))))[x.length + (u1.length + (u2.length + 1)) + y.length + u1.length]? = some b:=by rw [d2,i2]; exact oL
  have g1l:=(List.getElem?_eq_some_iff.1 g1).1;have g2l:=(List.getElem?_eq_some_iff.1 g2).1;refine bE s1 (j:=0) rfl (by omega) (by omega) fun q1 hq1=>?_;refine bE s1 (j:=0) rfl (by omega) (by omega) fun q2 hq2=>?_;refine bK (j:=0) (i:=x.length + (u1.length + (u2.length + 1)) + y.length + u1.length) (k:=0) b (bd _) s1 rfl hq1 (by rw [toNat_natCast]; rfl) g2 (by simp) ?_;refine bK (j:=0) (i:=x.length + u1.length) (k:=0) a (bd _) s1 rfl hq2 (by rw [toNat_natCast]; rfl) g1 (by simp) ?_;refine tZ (j:=0) (i:=x.length + u1.length) (k:=0) b (bd _) s1 rfl hq2 (by rw [toNat_natCast]; rfl) g1 (by simp) rfl fun h6 s6=>?_;rw [i1,mid_set,d3] at s6;have g3:((x++v1++b::u2++y++u1)++b::(v2++z))[x.length + (u1.length + (u2.length + 1)) + y.length + u1.length]? = some b:=by rw [i2,i3]; exact oL
  refine tZ (j:=0) (i:=x.length + (u1.length + (u2.length + 1)) + y.length + u1.length) (k:=0) a (bd _) s6 rfl hq1 (by rw [toNat_natCast]; rfl) g3 (by simp) rfl fun h7 s7=>?_;have s7:ah (vI s (((x++v1++b::u2++y++u1)++b::(v2++z)).set (x.length + (u1.length + (u2.length + 1)) + y.length + u1.length) a)::A) h7:=s7;rw [i2,i3,mid_set] at s7;refine ⟨⟨u1++[a],u2,v1++[b],v2,by simp,by simp,by simp; omega,by simp,?_⟩,by simp; omega⟩;have d4:(x++v1++b::u2++y++u1)++a::(v2++z) = x++((v1++[b]++u2)++(y++((u1++[a]++v2)++z))):=by simp
  rw [d4] at s7; exact s7
 ·have e2:u2 = []:=by
   have:=of_decide_eq_false k;exact List.eq_nil_of_length_eq_zero (by omega)
  subst e2;have e3:v2 = []:=List.eq_nil_of_length_eq_zero (by simp at hl; omega);subst e3;have d:x++((v1++[])++(y++((u1++[])++z))) = x++((v1++[])++(y++((u1++[])++z))):=rfl;exact s1
theorem sp_rotate (x u v z:List Int) (hu:u ≠ []) (hv:v ≠ []) (hb:x.length + u.length + v.length + z.length < 2 ^ 59) :
  Sp prog cu [sv s,.int .i64 x.length,.int .i64 (x.length + u.length:Nat),.int .i64 (x.length + u.length + v.length:Nat),f] R_ (vI s (x++(u++(v++z)))::A) (fun _ h=>ah (vI s (x++(v++(u++z)))::A) h):=by
 intro h s0;refine rz _ _ _ _ _ ?_;unfold ky;have w1:i64.wrap (((x.length + u.length:Nat):Int) - ((x.length:Nat):Int)) = ((u.length:Nat):Int):=by rw [aE (by omega) (by omega)]; omega
 have w2:i64.wrap (((x.length + u.length + v.length:Nat):Int) - ((x.length + u.length:Nat):Int)) = ((v.length:Nat):Int):=by rw [aE (by omega) (by omega)]; omega
 rw [w1,w2];have swp:∀ (X U Y V Z:List Int) (a b c:Int) (h':Hp) (K:Unit->Hp->Prop),U.length = V.length->X.length + U.length + Y.length + V.length + Z.length < 2 ^ 60->a = ((X.length:Nat):Int)->b = ((X.length + U.length + Y.length:Nat):Int)->c = ((U.length:Nat):Int)->ah (vI s (X++(U++(Y++(V++Z))))::A) h' ->
   (∀ h',ah (vI s (X++(V++(Y++(U++Z))))::A) h'->K () h')->cl prog bZ [sv s,.int .i64 a,.int .i64 b,.int .i64 c,f] R_ K h':=by
  rintro X U Y V Z a b c h' K h1 h2 rfl rfl rfl s1 k;refine (sp_swapRange s f A X U Y V Z h1 h2 h' s1).mono ?_;rintro w h'' ⟨r,e,s2⟩;exact ⟨r,e,k h'' s2⟩
 refine Lp.intro (fun (t:Int × Int) h=>∃ X U V Z:List Int,t = (((U.length:Nat):Int),((V.length:Nat):Int))/\U ≠ []/\V ≠ []/\X.length + U.length = x.length + u.length/\X++(V++(U++Z)) = x++(v++(u++z))/\ah (vI s (X++(U++(V++Z)))::A) h) (fun (t:Int × Int) _=>t.1.toNat + t.2.toNat) ⟨x,u,v,z,rfl,hu,hv,rfl,rfl,s0⟩ ?_;rintro t h1 ⟨X,U,V,Z,rfl,hU,hV,hm,ht,s1⟩;have hlen:=congrArg List.length ht;simp only [length_append] at hlen;have hup:=List.length_pos_iff.2 hU;have hvp:=List.length_pos_iff.2 hV;unfold kx;simp only;have w3:i64.wrap (((x.length + u.length:Nat):Int) - ((U.length:Nat):Int)) = ((X.length:Nat):Int):=by rw [aE (by omega) (by omega)]; omega
 rw [w3];refine ar (fun k1=>?_) (fun k1=>?_)
 ·refine ar (fun k2=>?_) (fun k2=>?_)
  ·have hgt:V.length < U.length:=by have:=of_decide_eq_true k2; omega
   have hs:U = U.take V.length++U.drop V.length:=(take_append_drop _ _).symm;have l1:(U.take V.length).length = V.length:=by rw [length_take]; omega
   have l2:(U.drop V.length).length = U.length - V.length:=length_drop;generalize U.take V.length = U1 at hs l1;generalize U.drop V.length = U2 at hs l2;subst hs;have hUl:(U1++U2).length = U1.length + U2.length:=length_append;refine swp X U1 U2 V Z _ _ _ _ _ l1 (by simp at hm; omega) rfl (by simp at hm; omega) (by omega) (by simpa using s1) fun h2 s2=>?_;have w4:i64.wrap ((((U1++U2).length:Nat):Int) - ((V.length:Nat):Int)) = ((U2.length:Nat):Int):=by rw [aE (by simp; omega) (by simp; omega)]; simp; omega
   rw [w4];refine ⟨⟨X++V,U2,U1,Z,by rw [l1],?_,?_,by rw [length_append]; omega,by rw [← ht]; simp,by simpa using s2⟩,by simp; omega⟩
   ·intro e; have:=congrArg List.length e; simp only [List.length_nil] at this; omega
   ·intro e; rw [e] at l1; simp at l1; omega
  ·have hgt:U.length < V.length:=by
    have a1:=of_decide_eq_false k2;have a2:((U.length:Nat):Int) ≠ ((V.length:Nat):Int):=by simpa using k1
    omega
   have hs:V = V.take (V.length - U.length)++V.drop (V.length - U.length):=(take_append_drop _ _).symm;have l1:(V.take (V.length - U.length)).length = V.length - U.length:=by rw [length_take]; omega
   have l2:(V.drop (V.length - U.length)).length = U.length:=by rw [length_drop]; omega
   have w5:i64.wrap ((i64.wrap (((x.length + u.length:Nat):Int) + ((V.length:Nat):Int))) - ((U.length:Nat):Int)) = ((x.length + u.length + V.length - U.length:Nat):Int):=by rw [aE (n:=((x.length + u.length:Nat):Int) + ((V.length:Nat):Int)) (by omega) (by omega),aE (by omega) (by omega)]; omega
   have w6:i64.wrap (((V.length:Nat):Int) - ((U.length:Nat):Int)) = ((V.length - U.length:Nat):Int):=by rw [aE (by omega) (by omega)]; omega
   rw [w5,w6];generalize V.take (V.length - U.length) = V1 at hs l1;generalize V.drop (V.length - U.length) = V2 at hs l2;have hVl:V.length = V1.length + V2.length:=by rw [hs,length_append]
   rw [hs] at s1 ht;refine swp X U V1 V2 Z _ _ _ _ _ l2.symm (by omega) rfl (by omega) rfl (by simpa using s1) fun h2 s2=>?_;refine ⟨⟨X,V2,V1,U++Z,by rw [l2,← l1],?_,?_,by omega,by rw [← ht]; simp,by simpa using s2⟩,by simp; omega⟩
   ·intro e; rw [e] at l2; simp at l2; omega
   ·intro e; rw [e] at l1; simp at l1; omega
 ·have he:U.length = V.length:=by
   have:((U.length:Nat):Int) = ((V.length:Nat):Int):=by simpa using k1
   omega
  refine swp X U [] V Z _ _ _ _ _ he (by simp; omega) rfl (by simp; omega) rfl (by simpa using s1) fun h2 s2=>?_;rw [← ht];simpa using s2
end
end
section
open Go Mb
theorem up_get {key:Int->Int} {l:List Int} (h:Up key l) {i j:Nat} {x y:Int} (hij:i <= j) (hx:l[i]? = some x) (hy:l[j]? = some y):key x <= key y:=by
 obtain ⟨hi,rfl⟩:=List.getElem?_eq_some_iff.1 hx;obtain ⟨hj,rfl⟩:=List.getElem?_eq_some_iff.1 hy;rcases lt_or_ge i j with h1 | h1
 ·exact List.pairwise_iff_getElem.1 h i j hi hj h1
 ·have:i = j:=by omega
  subst this; exact Int.le_refl _
theorem mem_get {l:List Int} {x:Int} (h:x ∈ l):∃ i:Nat,i < l.length/\l[i]? = some x:=by
 obtain ⟨i,hi,rfl⟩:=List.getElem_of_mem h;exact ⟨i,hi,getElem?_eq_getElem hi⟩
section
variable (s:Sl) (f:Value) (A:List As) (key:Int->Int) (S:Int->Prop) (hv:CmpOk f A key S)
include hv
theorem merge_l1 (p v q:List Int) (x:Int) (K:Unit->Hp->Prop) (hS:S x/\∀ y ∈ v,S y) (hu:Up key v) (hb:p.length + v.length + q.length + 1 < 2 ^ 60) {h:Hp} (s0:ah (vI s (p++(x::v++q))::A) h)
  (k:∀ m' h',m'.Perm (x::v)->Up key m'->ah (vI s (p++(m'++q))::A) h'->K () h') :
  Lp (dB s p.length f K) (((p.length + 1:Nat):Int),((p.length + 1 + v.length:Nat):Int)) h:=by
 refine Lp.intro (fun (t:Int × Int) h=>∃ i j:Nat,t = (((p.length + 1 + i:Nat):Int),((p.length + 1 + j:Nat):Int))/\i <= j/\j <= v.length/\(∀ (t:Nat) y,t < i->v[t]? = some y->key y < key x)/\(∀ (t:Nat) y,j <= t->v[t]? = some y->key x <= key y)/\ah (vI s (p++(x::v++q))::A) h) (fun (t:Int × Int) _=>t.2.toNat - t.1.toNat)
  ⟨0,v.length,rfl,zero_le _,le_refl _,fun t y h=>absurd h (Nat.not_lt_zero t),fun t y h1 h2=>by have:=(List.getElem?_eq_some_iff.1 h2).1; omega,s0⟩ ?_
 rintro t h1 ⟨i,j,rfl,hij,hj,hlo,hhi,s1⟩;unfold dB;simp only;have hh:i64.wrap (fdiv (u64.wrap (i64.wrap (((p.length + 1 + i:Nat):Int) + ((p.length + 1 + j:Nat):Int)))) (2 ^ (min (Int.toNat 1) (IntKind.bits .u64)))) = ((p.length + 1 + (i + j) / 2:Nat):Int):=by
  rw [mid_eq _ _ (by omega)]; omega
 rw [hh];refine ar (fun c=>?_) (fun c=>?_)
 ·have hlt:i < j:=by have:=of_decide_eq_true c; omega
  obtain ⟨m,hm⟩:∃ m,m = (i + j) / 2:=⟨_,rfl⟩
  rw [← hm];have hmv:m < v.length:=by omega
  have g1:(p++(x::v++q))[p.length + 1 + m]? = some v[m]:=by
   rw [getElem?_append_right (by omega),show p.length + 1 + m - p.length = m + 1 by omega,cons_append,List.getElem?_cons_succ,getElem?_append_left hmv,getElem?_eq_getElem hmv]
  have g2:(p++(x::v++q))[p.length]? = some x:=by
   rw [getElem?_append_right (by omega),show p.length - p.length = 0 by omega]; rfl
  have l1:=(List.getElem?_eq_some_iff.1 g1).1;refine bE s1 (j:=0) rfl (by omega) (by omega) fun q1 hq1=>?_;refine bE s1 (j:=0) rfl (by omega) (by omega) fun q2 hq2=>?_;refine bK (j:=0) (i:=p.length + 1 + m) (k:=0) v[m] (bd _) s1 rfl hq1 (by rw [toNat_natCast]; rfl) g1 (by simp) ?_;refine bK (j:=0) (i:=p.length) (k:=0) x (bd _) s1 rfl hq2 (by rw [toNat_natCast]; rfl) g2 (by simp) ?_;refine clv_t (hv v[m] x (hS.2 _ (List.getElem_mem hmv)) hS.1) s1 fun r h3 s3=>?_;obtain ⟨hr,s4⟩:=aM.1 s3;have s5:=vW s4;refine ar (fun k3=>?_) (fun k3=>?_)
  ·have k3':=hr.1 (of_decide_eq_true k3);have hw:i64.wrap (((p.length + 1 + m:Nat):Int) + 1) = ((p.length + 1 + (m + 1):Nat):Int):=by rw [aE (by omega) (by omega)]; omega
   rw [hw];refine ⟨⟨m + 1,j,rfl,by omega,hj,fun t y h4 h5=>?_,hhi,s5⟩,by simp only [toNat_natCast]; omega⟩;have:=up_get hu (show t <= m by omega) h5 (getElem?_eq_getElem hmv);omega
  ·have k3':key x <= key v[m]:=by
    have:¬ key v[m] < key x:=fun hh=>by have:=hr.2 hh; simp at k3; omega
    omega
   refine ⟨⟨i,m,rfl,by omega,by omega,hlo,fun t y h4 h5=>?_,s5⟩,by simp only [toNat_natCast]; omega⟩;have:=up_get hu h4 (getElem?_eq_getElem hmv) h5;omega
 ·have he:i = j:=by have:=of_decide_eq_false c; omega
  subst he;have fin:∀ (h':Hp),ah (vI s (p++((v.take i++x::v.drop i)++q))::A) h'->K () h':=by
   intro h' s';refine k _ h' ?_ ?_ s'
   ·have:=List.perm_middle (a:=x) (l₁:=v.take i) (l₂:=v.drop i);rw [take_append_drop] at this; exact this
   ·refine up_ins (by rw [take_append_drop]; exact hu) (fun y hy=>?_) (fun y hy=>?_)
    ·obtain ⟨t,h4,h5⟩:=mem_get hy;rw [length_take] at h4;rw [List.getElem?_take_of_lt (by omega)] at h5;exact le_of_lt (hlo t y (by omega) h5)
    ·obtain ⟨t,h4,h5⟩:=mem_get hy;rw [List.getElem?_drop] at h5;exact hhi (i + t) y (by omega) h5
  refine Lp.intro (fun (t:Int) h=>∃ m:Nat,t = ((p.length + m:Nat):Int)/\m <= i/\ah (vI s (p++((v.take m++x::v.drop m)++q))::A) h) (fun (t:Int) _=>p.length + i - t.toNat) ⟨0,by simp,zero_le _,by simpa using s1⟩ ?_;rintro t h2 ⟨m,rfl,hm,s2⟩;unfold fh;simp only;have hw0:i64.wrap (((p.length + 1 + i:Nat):Int) - 1) = ((p.length + i:Nat):Int):=by rw [aE (by omega) (by omega)]; omega
  have hw1:i64.wrap (((p.length + m:Nat):Int) + 1) = ((p.length + m + 1:Nat):Int):=by rw [aE (by omega) (by omega)]; omega
  rw [hw0,hw1];refine ar (fun c2=>?_) (fun c2=>?_)
  ·have hlt:m < i:=by have:=of_decide_eq_true c2; omega
   have hmv:m < v.length:=by omega
   have hd:v.drop m = v[m]::v.drop (m + 1):=List.drop_eq_getElem_cons hmv;rw [hd] at s2;have hlt2:(v.take m).length = m:=by rw [length_take]; omega
   have d1:p++((v.take m++x::v[m]::v.drop (m + 1))++q) = (p++v.take m)++x::v[m]::(v.drop (m + 1)++q):=by simp only [append_assoc,cons_append,nil_append]
   rw [d1] at s2;have hL:p.length + m = (p++v.take m).length:=by rw [length_append,hlt2]
   rw [hL];have hsl:=(aX (j:=0) s2 rfl).1;have hlen:((p++v.take m)++x::v[m]::(v.drop (m + 1)++q)).length = (p++v.take m).length + 2 + (v.drop (m + 1)++q).length:=by simp; omega
   refine bE s2 (j:=0) rfl (by omega) (by omega) fun q1 hq1=>?_;refine bE s2 (j:=0) rfl (by omega) (by omega) fun q2 hq2=>?_;refine bK (j:=0) (i:=(p++v.take m).length + 1) (k:=0) v[m] (bd _) s2 rfl hq1 (by rw [toNat_natCast]; rfl) tK (by simp) ?_;refine bK (j:=0) (i:=(p++v.take m).length) (k:=0) x (bd _) s2 rfl hq2 (by rw [toNat_natCast]; rfl) oL (by simp) ?_;refine tZ (j:=0) (i:=(p++v.take m).length) (k:=0) v[m] (bd _) s2 rfl hq2 (by rw [toNat_natCast]; rfl) oL (by simp) rfl fun h6 s6=>?_;rw [mid_set] at s6;refine tZ (j:=0) (i:=(p++v.take m).length + 1) (k:=0) x (bd _) s6 rfl hq1 (by rw [toNat_natCast]; rfl) tK (by simp) rfl fun h7 s7=>?_;have s7:ah (vI s (((p++v.take m)++v[m]::v[m]::(v.drop (m + 1)++q)).set ((p++v.take m).length + 1) x)::A) h7:=s7;rw [mid_set1] at s7;refine ⟨⟨m + 1,by rw [← hL]; rfl,by omega,?_⟩,by rw [← hL]; simp only [toNat_natCast]; omega⟩;have ht:v.take (m + 1) = v.take m++[v[m]]:=by rw [List.take_append_getElem]
   rw [ht];have d2:p++((v.take m++[v[m]]++x::v.drop (m + 1))++q) = (p++v.take m)++v[m]::x::(v.drop (m + 1)++q):=by simp only [append_assoc,cons_append,nil_append]
   rw [d2]; exact s7
  ·have he:m = i:=by have:=of_decide_eq_false c2; omega
   subst he;exact fin h2 s2
theorem merge_l3 (p u q:List Int) (x:Int) (K:Unit->Hp->Prop) (hS:S x/\∀ y ∈ u,S y) (hu:Up key u) (hb:p.length + u.length + q.length + 1 < 2 ^ 60) {h:Hp} (s0:ah (vI s (p++(u++x::q))::A) h)
  (k:∀ m' h',m'.Perm (u++[x])->Up key m'->ah (vI s (p++(m'++q))::A) h'->K () h') :
  Lp (dA s ((p.length + u.length:Nat):Int) f K) (((p.length:Nat):Int),((p.length + u.length:Nat):Int)) h:=by
 refine Lp.intro (fun (t:Int × Int) h=>∃ i j:Nat,t = (((p.length + i:Nat):Int),((p.length + j:Nat):Int))/\i <= j/\j <= u.length/\(∀ (t:Nat) y,t < i->u[t]? = some y->key y <= key x)/\(∀ (t:Nat) y,j <= t->u[t]? = some y->key x < key y)/\ah (vI s (p++(u++x::q))::A) h) (fun (t:Int × Int) _=>t.2.toNat - t.1.toNat)
  ⟨0,u.length,by simp,zero_le _,le_refl _,fun t y h=>absurd h (Nat.not_lt_zero t),fun t y h1 h2=>by have:=(List.getElem?_eq_some_iff.1 h2).1; omega,s0⟩ ?_
 rintro t h1 ⟨i,j,rfl,hij,hj,hlo,hhi,s1⟩;unfold dA;simp only;have hh:i64.wrap (fdiv (u64.wrap (i64.wrap (((p.length + i:Nat):Int) + ((p.length + j:Nat):Int)))) (2 ^ (min (Int.toNat 1) (IntKind.bits .u64)))) = ((p.length + (i + j) / 2:Nat):Int):=by
  rw [mid_eq _ _ (by omega)]; omega
 rw [hh];refine ar (fun c=>?_) (fun c=>?_)
 ·have hlt:i < j:=by have:=of_decide_eq_true c; omega
  obtain ⟨m,hm⟩:∃ m,m = (i + j) / 2:=⟨_,rfl⟩
  rw [← hm];have hmv:m < u.length:=by omega
  have g1:(p++(u++x::q))[p.length + m]? = some u[m]:=by
   rw [getElem?_append_right (by omega),show p.length + m - p.length = m by omega,getElem?_append_left hmv,getElem?_eq_getElem hmv]
  have g2:(p++(u++x::q))[p.length + u.length]? = some x:=by
   rw [getElem?_append_right (by omega),show p.length + u.length - p.length = u.length by omega]; exact oL
  have l1:=(List.getElem?_eq_some_iff.1 g2).1;refine bE s1 (j:=0) rfl (by omega) (by omega) fun q1 hq1=>?_;refine bE s1 (j:=0) rfl (by omega) (by omega) fun q2 hq2=>?_;refine bK (j:=0) (i:=p.length + u.length) (k:=0) x (bd _) s1 rfl hq1 (by rw [toNat_natCast]; rfl) g2 (by simp) ?_;refine bK (j:=0) (i:=p.length + m) (k:=0) u[m] (bd _) s1 rfl hq2 (by rw [toNat_natCast]; rfl) g1 (by simp) ?_;refine clv_t (hv x u[m] hS.1 (hS.2 _ (List.getElem_mem hmv))) s1 fun r h3 s3=>?_;obtain ⟨hr,s4⟩:=aM.1 s3;have s5:=vW s4;refine ar (fun k3=>?_) (fun k3=>?_)
  ·have k3':key u[m] <= key x:=by
    have:¬ key x < key u[m]:=fun hh=>by have:=hr.2 hh; simp at k3; omega
    omega
   have hw:i64.wrap (((p.length + m:Nat):Int) + 1) = ((p.length + (m + 1):Nat):Int):=by rw [aE (by omega) (by omega)]; omega
   rw [hw];refine ⟨⟨m + 1,j,rfl,by omega,hj,fun t y h4 h5=>?_,hhi,s5⟩,by simp only [toNat_natCast]; omega⟩;have:=up_get hu (show t <= m by omega) h5 (getElem?_eq_getElem hmv);omega
  ·have k3':key x < key u[m]:=hr.1 (by simpa using k3);refine ⟨⟨i,m,rfl,by omega,by omega,hlo,fun t y h4 h5=>?_,s5⟩,by simp only [toNat_natCast]; omega⟩;have:=up_get hu h4 (getElem?_eq_getElem hmv) h5;omega
 ·have he:i = j:=by have:=of_decide_eq_false c; omega
  subst he;have fin:∀ (h':Hp),ah (vI s (p++((u.take i++x::u.drop i)++q))::A) h'->K () h':=by
   intro h' s';refine k _ h' ?_ ?_ s'
   ·have h4:=List.perm_middle (a:=x) (l₁:=u.take i) (l₂:=u.drop i);rw [take_append_drop] at h4;exact h4.trans (List.perm_append_comm (l₁:=[x]) (l₂:=u))
   ·refine up_ins (by rw [take_append_drop]; exact hu) (fun y hy=>?_) (fun y hy=>?_)
    ·obtain ⟨t,h4,h5⟩:=mem_get hy;rw [length_take] at h4;rw [List.getElem?_take_of_lt (by omega)] at h5;exact hlo t y (by omega) h5
    ·obtain ⟨t,h4,h5⟩:=mem_get hy;rw [List.getElem?_drop] at h5;exact le_of_lt (hhi (i + t) y (by omega) h5)
  refine Lp.intro (fun (t:Int) h=>∃ m:Nat,t = ((p.length + m:Nat):Int)/\i <= m/\m <= u.length/\ah (vI s (p++((u.take m++x::u.drop m)++q))::A) h) (fun (t:Int) _=>t.toNat - p.length) ⟨u.length,rfl,hj,le_refl _,by simpa using s1⟩ ?_;rintro t h2 ⟨m,rfl,hm,hmu,s2⟩;unfold ff;simp only;refine ar (fun c2=>?_) (fun c2=>?_)
  ·have hlt:i < m:=by have:=of_decide_eq_true c2; omega
   obtain ⟨m,rfl⟩:∃ m',m = m' + 1:=⟨m - 1,by omega⟩
   have hw1:i64.wrap (((p.length + (m + 1):Nat):Int) - 1) = ((p.length + m:Nat):Int):=by rw [aE (by omega) (by omega)]; omega
   rw [hw1];have hmv:m < u.length:=by omega
   have ht:u.take (m + 1) = u.take m++[u[m]]:=by rw [List.take_append_getElem]
   rw [ht] at s2;have hlt2:(u.take m).length = m:=by rw [length_take]; omega
   have d1:p++((u.take m++[u[m]]++x::u.drop (m + 1))++q) = (p++u.take m)++u[m]::x::(u.drop (m + 1)++q):=by simp only [append_assoc,cons_append,nil_append]
   rw [d1] at s2;have hL:p.length + m = (p++u.take m).length:=by rw [length_append,hlt2]
   have hL1:p.length + (m + 1) = (p++u.take m).length + 1:=by omega
   rw [hL,hL1];have hlen:((p++u.take m)++u[m]::x::(u.drop (m + 1)++q)).length = (p++u.take m).length + 2 + (u.drop (m + 1)++q).length:=by simp; omega
   refine bE s2 (j:=0) rfl (by omega) (by omega) fun q1 hq1=>?_;refine bE s2 (j:=0) rfl (by omega) (by omega) fun q2 hq2=>?_;refine bK (j:=0) (i:=(p++u.take m).length) (k:=0) u[m] (bd _) s2 rfl hq1 (by rw [toNat_natCast]; rfl) oL (by simp) ?_;refine bK (j:=0) (i:=(p++u.take m).length + 1) (k:=0) x (bd _) s2 rfl hq2 (by rw [toNat_natCast]; rfl) tK (by simp) ?_;refine tZ (j:=0) (i:=(p++u.take m).length + 1) (k:=0) u[m] (bd _) s2 rfl hq2 (by rw [toNat_natCast]; rfl) tK (by simp) rfl fun h6 s6=>?_;rw [mid_set1] at s6;refine tZ (j:=0) (i:=(p++u.take m).length) (k:=0) x (bd _) s6 rfl hq1 (by rw [toNat_natCast]; rfl) oL (by simp) rfl fun h7 s7=>?_;have s7:ah (vI s (((p++u.take m)++u[m]::u[m]::(u.drop (m + 1)++q)).set (p++u.take m).length x)::A) h7:=s7;rw [mid_set] at s7;refine ⟨⟨m,by rw [← hL],by omega,by omega,?_⟩,by rw [← hL]; simp only [toNat_natCast]; omega⟩;have hd:u.drop m = u[m]::u.drop (m + 1):=List.drop_eq_getElem_cons hmv;rw [hd];have d2:p++((u.take m++x::u[m]::u.drop (m + 1))++q) = (p++u.take m)++x::u[m]::(u.drop (m + 1)++q):=by simp only [append_assoc,cons_append,nil_append]
   rw [d2]; exact s7
  ·have he:m = i:=by have:=of_decide_eq_false c2; omega
   subst he;exact fin h2 s2
end
end
end Go.Proofs.YtjcamacgclipiaaGreatDoor
