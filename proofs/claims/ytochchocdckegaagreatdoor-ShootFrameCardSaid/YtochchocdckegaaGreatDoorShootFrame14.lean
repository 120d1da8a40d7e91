/- Part of the proof of: The law ShootFrame returns true for every input, and leaves its arguments as they were. -/
import Derived.Test.YtochchocdckegaaGreatDoorShootFrame13
set_option linter.all false
set_option maxRecDepth 20000
namespace Go.Proofs.YtochchocdckegaaGreatDoor
open Go.Proofs.Tryz
open Go.IntKind (i64 u64)
open _root_.Int (le_refl le_trans toNat_natCast)
open _root_.List (getD_eq_getElem?_getD getElem?_set length_append length_drop length_take mem_append mem_cons pairwise_append replicate)
open _root_.Nat (lt_or_ge zero_le)
open _root_.Option (getD_some)
section
open Go Mb
theorem do_done {k:PK} {e:Int} {c:cK} (cw:Cw c) (h9:c.e0 ≠ 9) (hn:1 <= k.s.fJa/\k.s.fJa <= 4):(PK.do_ k e c).1.2 = true:=by
 by_cases hb:PK.off k e = true\/Word.check c k.s.fJa ≠ 0
 ·exact (PK.do_bad hb).2.1
 ·simp only [not_or,Bool.not_eq_true,Decidable.not_not] at hb;have w:=sY hn.1 hn.2 hb.2;rw [PK.do_good hb.1 hb.2];unfold PK.does PK.errs;rw [PK.w0 w]
  repeat' split
  all_goals first | rfl | (exfalso; omega)
theorem waitsFrom_none {n o:Int}:∀ {l:List Int} {i:Int},(∀ (j:Nat) (a:Int),l[j]? = some a->o ≠ i + j->n <= a)->fLa.fIb n o l i = []
 | [],_,_=>rfl
 | b::l,i,h=>by
  rw [fLa.fIb,if_neg]
  ·exact waitsFrom_none fun j a hj ho=>h (j + 1) a (by simpa using hj) (by omega)
  ·rintro ⟨h1,h2⟩;have:=h 0 b rfl (by simpa using h2);omega
theorem done_of {k:KK} {n:Int} {d:Nat} (h1:1 <= n) (h2:n <= k.fFa.1.length) (ho:k.fFa.1[(n - 1).toNat]? = some (d:Int)) (h:∀ c,c < k.fFa.2.length->c ≠ d->n <= fTa k c):fLa.done k.fFa n = true:=by
 unfold fLa.done;simp only [Bool.and_eq_true,decide_eq_true_eq];refine ⟨⟨h1,h2⟩,?_⟩;unfold fLa.waits;rw [if_neg (by unfold fLa.now; omega)];have hov:k.fFa.1.getD (n - 1).toNat 0 = d:=by rw [getD_eq_getElem?_getD,ho]; rfl
 rw [hov];refine waitsFrom_none fun j a hj hne=>?_;have hlt:=(List.getElem?_eq_some_iff.1 hj).1;have:=h j hlt (by omega);unfold fTa at this;rw [getD_eq_getElem?_getD,hj] at this;exact this
structure Closed (P:KK->Prop):Prop where
 inv:∀ {k:KK},P k->fA k
 post:∀ {k:KK},P k->k.now < 2 ^ 40->∀ c:Int,P (KK.post k c).2
 step:∀ {k:KK},P k->k.now < 2 ^ 40->∀ c:Int,P (KK.step k c).2
variable {P:KK->Prop}
structure Posted (k k':KK) (c:Nat):Prop where
 calls:k'.calls = k.calls
 own:k'.fFa.1 = k.fFa.1
 p:k'.p = k.p
 events:k'.events = k.events
 up:∀ d,fTa k d <= fTa k' d
 now:k'.now = k.now + 1
 box:Mail.box k'.fKa c = (Mail.box k.fKa c).drop 1
theorem post_posted {k:KK} (A:fA k) (hn:k.now < 2 ^ 40) {c:Nat} (h:0 < KK.mail k c):Posted k (KK.post k c).2 c:=by
 have hi:KK.is k c = true:=by
  unfold KK.mail at h; split at h
  ·assumption
  ·omega
 unfold KK.mail at h;rw [if_pos hi] at h;have hw:Mail.waits k.fKa c ≠ 0:=by omega
 obtain ⟨n,e1,hlt⟩:=kW hi;have hlt:c < k.calls.length:=by omega
 have hbl:k.fKa.length = k.calls.length:=by have:=A.ok.bl; have:=A.ok.cl; omega
 have hel:k.fFa.2.length = k.calls.length:=by have:=A.ok.el; have:=A.ok.cl; omega
 have htk:Mail.take k.fKa c = (((Mail.box k.fKa c).getD 0 0,true),k.fKa.set c ((Mail.box k.fKa c).drop 1)):=by
  unfold Mail.take; rw [if_neg hw]; simp
 have ht:=tick_now A.ok hn;unfold KK.post;rw [if_neg (by rw [hi]; simp),htk,if_neg (by simp)];refine ⟨rfl,?_,rfl,rfl,fun d=>?_,ht,?_⟩
 ·show (fLa.ack k.fFa c _).2.1 = _;unfold fLa.ack; split <;> rfl
 ·show fTa k d <= (fLa.ack k.fFa c ((Mail.box k.fKa c).getD 0 0)).2.2.getD d 0;unfold fLa.ack;split
  ·show fTa k d <= (k.fFa.2.set (c:Int).toNat (mx (k.fFa.2.getD (c:Int).toNat 0) _)).getD d 0;simp only [toNat_natCast,getD_eq_getElem?_getD,getElem?_set];by_cases e:c = d
   ·subst e;rw [if_pos rfl,if_pos (by omega)];unfold fTa;rw [getD_eq_getElem?_getD];show _ <= mx _ _;unfold mx; split <;> omega
   ·rw [if_neg e];unfold fTa; rw [getD_eq_getElem?_getD]; exact le_refl _
  ·exact le_refl _
 ·show Mail.box (k.fKa.set c ((Mail.box k.fKa c).drop 1)) c = _;simp only [Mail.box,toNat_natCast,getD_eq_getElem?_getD,getElem?_set];rw [if_pos trivial,if_pos (by omega)]; rfl
structure Drained (P:KK->Prop) (k k':KK) (c n:Nat):Prop where
 all:P k'
 calls:k'.calls = k.calls
 own:k'.fFa.1 = k.fFa.1
 p:k'.p = k.p
 events:k'.events = k.events
 up:∀ d,fTa k d <= fTa k' d
 lo:k.now <= k'.now
 now:k'.now <= k.now + n
 box:Mail.box k'.fKa c = []
theorem mail_len {k:KK} {c:Nat} (ok:KK.Ok k) (hc:c < k.calls.length):KK.mail k c = ((Mail.box k.fKa c).length:Int):=by
 have hbl:k.fKa.length = k.calls.length:=by have:=ok.bl; have:=ok.cl; omega
 have hi:KK.is k c = true:=by unfold KK.is; exact decide_eq_true (by omega)
 unfold KK.mail Mail.waits;rw [if_pos hi,if_pos (by unfold Mail.has; exact decide_eq_true (by omega))]
theorem drain_drained (hp:Closed P) {c:Nat}:∀ (n:Nat) {k:KK},P k->c < k.calls.length->(Mail.box k.fKa c).length <= n->k.now + n < 2 ^ 40->Drained P k (KK.drain c n k) c n
 | 0,k,A,hc,hl,hn=>⟨A,rfl,rfl,rfl,rfl,fun _=>le_refl _,le_refl _,by show k.now <= k.now + 0; omega,List.eq_nil_of_length_eq_zero (by show (Mail.box k.fKa c).length = 0; omega)⟩
 | n + 1,k,A,hc,hl,hn=>by
  rw [KK.drain];by_cases hm:0 < KK.mail k c
  ·rw [if_pos hm];have Q:=post_posted (hp.inv A) (by omega) hm;have A':=hp.post A (by omega) c;have D:=drain_drained hp n A' (by rw [Q.calls]; exact hc) (by rw [Q.box,length_drop]; omega) (by rw [Q.now]; omega);have h1:=Q.now;have h2:=D.now;have h3:=D.lo;exact ⟨D.all,D.calls.trans Q.calls,D.own.trans Q.own,D.p.trans Q.p,D.events.trans Q.events,fun d=>le_trans (Q.up d) (D.up d),by omega,by omega,D.box⟩
  ·rw [if_neg hm];rw [mail_len (hp.inv A).ok hc] at hm;exact ⟨A,rfl,rfl,rfl,rfl,fun _=>le_refl _,le_refl _,by omega,List.eq_nil_of_length_eq_zero (by omega)⟩
structure Stepped (k k':KK) (c:Nat):Prop where
 other:∀ d,d ≠ c->k'.calls[d]? = k.calls[d]?
 len:k'.calls.length = k.calls.length
 own:∃ m,k'.fFa.1 = k.fFa.1++m/\m.length <= 1
 fTa:∀ d,fTa k' d = fTa k d
theorem step_stepped {k:KK} (A:fA k) {c:Nat} {x:KC} (hc:c < k.calls.length) (hx:k.calls[c]? = some (some x)):Stepped k (KK.step k c).2 c /\
  (x.fc.e0 ≠ 9->(KK.step k c).2.calls[c]? = some none\/∃ y,(KK.step k c).2.calls[c]? = some (some y)/\y.fPa = true/\y.fc = x.fc) /\
  (x.fPa = true->fLa.done k.fFa x.fAb = true->(KK.step k c).2.calls[c]? = some none):=by
 have hi:KK.is k c = true:=by unfold KK.is; exact decide_eq_true (by omega)
 have hcall:KK.call k c = some x:=by unfold KK.call; rw [toNat_natCast,getD_eq_getElem?_getD,hx]; rfl
 have hb:KK.busy k c = true:=by unfold KK.busy; rw [hi,hcall]; rfl
 have cw:=A.cw c x hx;have hstep:(KK.step k c).2 = KK.work (KK.tick k) c x:=by unfold KK.step; rw [if_neg (by rw [hb]; simp),hcall]
 have ends_c:∀ (m:KK) (a:eQ) (l:jO),m.calls = k.calls->(KK.ends m c x a l).calls = k.calls.set c none:=fun m a l h=>by unfold KK.ends; simp [h]
 have set_none:∀ d,d ≠ c->(k.calls.set c none)[d]? = k.calls[d]?:=fun d h=>by rw [getElem?_set,if_neg (fun e=>h e.symm)]
 have at_none:(k.calls.set c none)[c]? = some none:=by rw [getElem?_set,if_pos rfl,if_pos hc]
 have told_nu:x.fPa = true->¬ bE (az x.fc).1 = true:=fun ht hu=>by
  have T:=A.teller ⟨hx,ht⟩;have w:=sY A.en.1 A.en.2 T.k;have:=T.t;rw [us w.kind] at hu;unfold bE at hu;unfold Tk at this;simp at hu;omega
 rw [hstep];unfold KK.work;by_cases hu:bE (az x.fc).1 = true
 ·rw [if_pos hu];have ha:(KK.access (KK.tick k) c x).2.calls = k.calls/\(KK.access (KK.tick k) c x).2.fFa = k.fFa:=by
   unfold KK.access;split
   ·exact ⟨rfl,rfl⟩
   ·split <;> exact ⟨rfl,rfl⟩
  have hcs:=ends_c (KK.access (KK.tick k) c x).2 (KK.access (KK.tick k) c x).1.1 (KK.access (KK.tick k) c x).1.2 ha.1;have hep:(KK.ends (KK.access (KK.tick k) c x).2 c x (KK.access (KK.tick k) c x).1.1 (KK.access (KK.tick k) c x).1.2).fFa = k.fFa:=ha.2;refine ⟨⟨fun d h=>by rw [hcs]; exact set_none d h,by rw [hcs]; simp,⟨[],by rw [hep]; simp,zero_le _⟩,fun d=>by unfold fTa; rw [hep]⟩,fun _=>.inl (by rw [hcs]; exact at_none),fun ht=>absurd hu (told_nu ht)⟩
 ·rw [if_neg hu];by_cases ht:x.fPa = false/\KK.takes (KK.tick k).p x = true
  ·rw [if_pos ht];have hcs:(KK.send (KK.clean (KK.tell (KK.tick k) c x) c) c x).calls = k.calls.set c (some { x with fPa:=true,fAb:=(fLa.begin_ k.fFa c).1.1 }):=by
    simp only [KK.send,KK.clean,KK.tell,KK.tick,toNat_natCast,List.set_set]
   have hep:(KK.send (KK.clean (KK.tell (KK.tick k) c x) c) c x).fFa = (fLa.begin_ k.fFa c).2:=rfl;have hel:k.fFa.2.length = k.calls.length:=by have:=A.ok.el; have:=A.ok.cl; omega
   have he:(fLa.begin_ k.fFa c).2 = (k.fFa.1++[(c:Int)],k.fFa.2):=by
    have:fLa.is k.fFa c = true:=by unfold fLa.is; exact decide_eq_true (by omega)
    unfold fLa.begin_;rw [if_pos this]
   refine ⟨⟨fun d h=>by rw [hcs,getElem?_set,if_neg (fun e=>h e.symm)],by rw [hcs]; simp,⟨[(c:Int)],by rw [hep,he],Nat.le_refl _⟩,fun d=>by unfold fTa; rw [hep,he]⟩,fun _=>.inr ⟨{ x with fPa:=true,fAb:=(fLa.begin_ k.fFa c).1.1 },by rw [hcs,getElem?_set,if_pos rfl,if_pos hc],rfl,rfl⟩,fun h=>by rw [ht.1] at h; cases h⟩
  ·rw [if_neg ht];by_cases hd:x.fPa = true/\fLa.done (KK.tick k).fFa x.fAb = false
   ·rw [if_pos hd];refine ⟨⟨fun d h=>rfl,rfl,⟨[],by simp [KK.tick],zero_le _⟩,fun d=>rfl⟩,fun _=>.inr ⟨x,hx,hd.1,rfl⟩,fun h1 h2=>?_⟩;have:=hd.2;rw [show (KK.tick k).fFa = k.fFa from rfl,h2] at this;cases this
   ·rw [if_neg hd];by_cases h9:x.fc.e0 = 9
    ·have hnt:¬ x.fPa = true:=fun h=>by
      have:=(A.teller ⟨hx,h⟩).t;unfold Tk at this; omega
     split
     ·have hcs:=ends_c { KK.tick k with p:=(PK.do_ (KK.tick k).p x.fGa x.fc).2 } (PK.do_ (KK.tick k).p x.fGa x.fc).1.1 jg rfl;refine ⟨⟨fun d h=>by rw [hcs]; exact set_none d h,by rw [hcs]; simp,⟨[],by show k.fFa.1 = k.fFa.1++[]; simp,zero_le _⟩,fun d=>rfl⟩,fun h=>absurd h9 h,fun h=>absurd h hnt⟩
     ·exact ⟨⟨fun d h=>rfl,rfl,⟨[],by show k.fFa.1 = k.fFa.1++[]; simp,zero_le _⟩,fun d=>rfl⟩,fun h=>absurd h9 h,fun h=>absurd h hnt⟩
    ·have hdn:(PK.do_ (KK.tick k).p x.fGa x.fc).1.2 = true:=do_done cw h9 A.en;rw [if_pos hdn];have hcs:=ends_c { KK.tick k with p:=(PK.do_ (KK.tick k).p x.fGa x.fc).2 } (PK.do_ (KK.tick k).p x.fGa x.fc).1.1 jg rfl;refine ⟨⟨fun d h=>by rw [hcs]; exact set_none d h,by rw [hcs]; simp,⟨[],by show k.fFa.1 = k.fFa.1++[]; simp,zero_le _⟩,fun d=>rfl⟩,fun _=>.inl (by rw [hcs]; exact at_none),fun _ _=>by rw [hcs]; exact at_none⟩
structure Turned (P:KK->Prop) (k k':KK) (c:Nat):Prop where
 all:P k'
 other:∀ d,d ≠ c->k'.calls[d]? = k.calls[d]?
 len:k'.calls.length = k.calls.length
 own:∃ m,k'.fFa.1 = k.fFa.1++m/\m.length <= 1
 up:∀ d,fTa k d <= fTa k' d
 self:∀ n:Nat,n < k.fFa.1.length->k.fFa.1[n]? ≠ some (c:Int)->(n:Int) + 1 <= fTa k' c
 lo:k.now <= k'.now
 now:k'.now <= k.now + 5001
theorem busy_nat {k:KK} {c:Nat} (hc:c < k.calls.length):KK.busy k c = true↔∃ x,k.calls[c]? = some (some x):=by
 have hi:KK.is k c = true:=by unfold KK.is; exact decide_eq_true (by omega)
 unfold KK.busy KK.call;rw [hi,toNat_natCast,getD_eq_getElem?_getD,List.getElem?_eq_getElem hc];cases k.calls[c] with
 | none=>simp
 | some x=>simp
theorem turn_turned (hp:Closed P) {k:KK} (A:P k) {c:Nat} (hc:c < k.calls.length) (hb:k.fFa.1.length <= 5000) (hnow:k.now < 2 ^ 35):Turned P k (KK.turn1 k c).1 c/\((KK.turn1 k c).2 = true↔∃ x,k.calls[c]? = some (some x)) /\
  (k.calls[c]? = some none->(KK.turn1 k c).1.calls[c]? = some none) /\
  (∀ x,k.calls[c]? = some (some x)->x.fc.e0 ≠ 9->(KK.turn1 k c).1.calls[c]? = some none\/∃ y,(KK.turn1 k c).1.calls[c]? = some (some y)/\y.fPa = true/\y.fc = x.fc) /\
  (∀ x,k.calls[c]? = some (some x)->x.fPa = true->(∀ d,d < k.calls.length->d ≠ c->x.fAb <= fTa k d)->(KK.turn1 k c).1.calls[c]? = some none):=by
 have hbox:(Mail.box k.fKa c).length <= 5000:=by
  have:=box_len (box_of (hp.inv A).ok.bx (c:Int));omega
 have D:=drain_drained hp 5000 A hc hbox (by omega);have hself:∀ n:Nat,n < k.fFa.1.length->k.fFa.1[n]? ≠ some (c:Int)->(n:Int) + 1 <= fTa (KK.drain c 5000 k) c:=by
  intro n h1 h2;rcases (hp.inv D.all).mail c n (by rw [D.calls]; exact hc) (by rw [D.own]; exact h1) (by rw [D.own]; exact h2) with h | h
  ·exact h
  ·rw [D.box] at h; cases h
 unfold KK.turn1;have hd:(KK.drain (c:Int) 5000 k) = KK.drain c 5000 k:=rfl;by_cases hbz:KK.busy (KK.drain c 5000 k) c = true
 ·rw [if_pos hbz]
  dsimp only
  have hcd:c < (KK.drain c 5000 k).calls.length:=by rw [D.calls]; exact hc
  obtain ⟨x,hx⟩:=(busy_nat hcd).1 hbz;obtain ⟨S,s1,s2⟩:=step_stepped (hp.inv D.all) hcd hx;have hx':k.calls[c]? = some (some x):=by rw [← D.calls]; exact hx
  have hn:=KK.step_now (k:=KK.drain c 5000 k) (hp.inv D.all).ok.n0 (by have:=D.now; omega) c;refine ⟨⟨hp.step D.all (by have:=D.now; omega) c,fun d h=>by rw [S.other d h,D.calls],by rw [S.len,D.calls],?_,fun d=>by rw [S.fTa]; exact D.up d,fun n h1 h2=>by rw [S.fTa]; exact hself n h1 h2,by have:=D.lo; omega,by have:=D.now; omega⟩,⟨fun _=>⟨x,hx'⟩,fun _=>rfl⟩,fun h=>(by rw [hx'] at h; cases h),fun y hy h9=>?_,fun y hy ht hh=>?_⟩
  ·obtain ⟨m,hm,hl⟩:=S.own;exact ⟨m,by rw [hm,D.own],hl⟩
  ·rw [hx'] at hy; cases hy; exact s1 h9
  ·rw [hx'] at hy; cases hy;refine s2 ht ?_;have T:=(hp.inv D.all).told c x ⟨hx,ht⟩;have hel:(KK.drain c 5000 k).fFa.2.length = k.calls.length:=by have:=(hp.inv D.all).ok.el; have:=(hp.inv D.all).ok.cl; rw [D.calls] at this; omega
   exact done_of T.2.1 T.2.2.1 T.2.2.2 fun d hdl hne=>le_trans (hh d (by omega) hne) (D.up d)
 ·rw [if_neg hbz]
  dsimp only
  have hcd:c < (KK.drain c 5000 k).calls.length:=by rw [D.calls]; exact hc
  have hno:¬ ∃ x,k.calls[c]? = some (some x):=fun ⟨x,h⟩=>hbz ((busy_nat hcd).2 ⟨x,by rw [D.calls]; exact h⟩);refine ⟨⟨D.all,fun d _=>by rw [D.calls],by rw [D.calls],⟨[],by rw [D.own]; simp,zero_le _⟩,D.up,hself,D.lo,by have:=D.now; omega⟩,⟨fun h=>(by cases h),fun h=>absurd h hno⟩,fun h=>by rw [D.calls]; exact h,fun y hy=>absurd ⟨y,hy⟩ hno,fun y hy=>absurd ⟨y,hy⟩ hno⟩
end
section
open Go Mb
variable {P:KK->Prop}
structure Swept (P:KK->Prop) (n c:Nat) (k k':KK) (b b':Bool):Prop where
 all:P k'
 len:k'.calls.length = k.calls.length
 own:∃ m,k'.fFa.1 = k.fFa.1++m/\m.length <= n
 up:∀ d,fTa k d <= fTa k' d
 lo:k.now <= k'.now
 now:k'.now <= k.now + n * 5001
 other:∀ d:Nat,d < c\/c + n <= d->k'.calls[d]? = k.calls[d]?
 none_:∀ d:Nat,k.calls[d]? = some none->k'.calls[d]? = some none
 busy:b' = true↔b = true\/∃ (d:Nat) (x:KC),c <= d/\d < c + n/\k.calls[d]? = some (some x)
 self:∀ d:Nat,c <= d->d < c + n->d < k.calls.length->∀ m:Nat,m < k.fFa.1.length->k.fFa.1[m]? ≠ some (d:Int)->(m:Int) + 1 <= fTa k' d
 told:∀ (d:Nat) x,c <= d->d < c + n->k.calls[d]? = some (some x)->x.fc.e0 ≠ 9->k'.calls[d]? = some none\/∃ y,k'.calls[d]? = some (some y)/\y.fPa = true/\y.fc = x.fc/\∀ e,d < e->e < c + n->e < k.calls.length->y.fAb <= fTa k' e
 fin:∀ (d:Nat) x,c <= d->d < c + n->k.calls[d]? = some (some x)->x.fPa = true->(∀ e,e < k.calls.length->(e < c\/d < e)->x.fAb <= fTa k e)->k'.calls[d]? = some none
theorem turn_out {k:KK} {c:Nat} (hc:k.calls.length <= c):KK.turn1 k c = (k,false):=by
 have hi:KK.is k c = false:=by unfold KK.is; exact decide_eq_false (by omega)
 have hm:KK.mail k c = 0:=by unfold KK.mail; rw [hi]; rfl
 have hd:KK.drain (c:Int) 5000 k = k:=by
  rw [show (5000:Nat) = 4999 + 1 from rfl,KK.drain,if_neg (by rw [hm]; omega)]
 have hb:KK.busy k c = false:=by unfold KK.busy; rw [hi]; rfl
 unfold KK.turn1;rw [hd,if_neg (by rw [hb]; decide)]
theorem rB (hp:Closed P):∀ (n:Nat) {c:Nat} {k:KK} (b:Bool),P k->k.fFa.1.length + n <= 5000->k.now + n * 5001 < 2 ^ 35->Swept P n c k (KK.sweep n c k b).1 b (KK.sweep n c k b).2
 | 0,c,k,b,A,_,_=>⟨A,rfl,⟨[],by simp [KK.sweep],zero_le _⟩,fun _=>le_refl _,le_refl _,by simp [KK.sweep],fun _ _=>rfl,fun _ h=>h,⟨fun h=>.inl h,fun h=>by
   rcases h with h | ⟨d,x,h1,h2,_⟩
   ·exact h
   ·omega⟩,fun d h1 h2=>by omega,fun d x h1 h2=>by omega,fun d x h1 h2=>by omega⟩
 | n + 1,c,k,b,A,hl,hn=>by
  have hI:=hp.inv A;have e1:KK.sweep (n + 1) c k b = KK.sweep n ((c + 1:Nat):Int) (KK.turn1 k c).1 ((KK.turn1 k c).2 || b):=rfl;rw [e1];rcases lt_or_ge c k.calls.length with hc | hc
  ·obtain ⟨T,t1,t2,t3,t4⟩:=turn_turned hp A hc (by omega) (by omega);obtain ⟨m1,hm1,hl1⟩:=T.own;have hn1:=T.now;have hlo1:=T.lo;have S:=rB hp n (c:=c + 1) ((KK.turn1 k c).2 || b) T.all (by rw [hm1,length_append]; omega) (by omega);obtain ⟨m2,hm2,hl2⟩:=S.own;have hn2:=S.now;have hlo2:=S.lo;have own1:∀ m:Nat,m < k.fFa.1.length->(KK.turn1 k c).1.fFa.1[m]? = k.fFa.1[m]?:=fun m h=>by rw [hm1,List.getElem?_append_left h]
   have len1:k.fFa.1.length <= (KK.turn1 k c).1.fFa.1.length:=by rw [hm1,length_append]; omega
   have hS:=S.self;have hTl:=T.len;refine ⟨S.all,S.len.trans T.len,⟨m1++m2,by rw [hm2,hm1,List.append_assoc],by rw [length_append]; omega⟩,fun d=>le_trans (T.up d) (S.up d),by omega,by omega,fun d h=>?_,fun d h=>?_,?_,fun d h1 h2 h3 m h4 h5=>?_,fun d x h1 h2 h3 h4=>?_,fun d x h1 h2 h3 h4 h5=>?_⟩
   ·rw [S.other d (by omega),T.other d (by omega)]
   ·refine S.none_ d ?_;by_cases e:d = c
    ·subst e; exact t2 h
    ·rw [T.other d e]; exact h
   ·rw [S.busy,Bool.or_eq_true,t1];constructor
    ·rintro ((⟨x,h⟩ | h) | ⟨d,x,h1,h2,h3⟩)
     ·exact .inr ⟨c,x,Nat.le_refl _,by omega,h⟩
     ·exact .inl h
     ·rw [T.other d (by omega)] at h3;exact .inr ⟨d,x,by omega,by omega,h3⟩
    ·rintro (h | ⟨d,x,h1,h2,h3⟩)
     ·exact .inl (.inr h)
     ·by_cases e:d = c
      ·subst e; exact .inl (.inl ⟨x,h3⟩)
      ·exact .inr ⟨d,x,by omega,by omega,by rw [T.other d e]; exact h3⟩
   ·by_cases e:d = c
    ·subst e;exact le_trans (T.self m h4 h5) (S.up d)
    ·exact hS d (by omega) (by omega) (by omega) m (by omega) (by rw [own1 m h4]; exact h5)
   ·by_cases e:d = c
    ·subst e;rcases t3 x h3 h4 with h6 | ⟨y,h6,h7,h8⟩
     ·exact .inl (by rw [S.other d (by omega)]; exact h6)
     ·refine .inr ⟨y,by rw [S.other d (by omega)]; exact h6,h7,h8,fun e h9 h10 h11=>?_⟩;have Q:=(hp.inv T.all).told d y ⟨h6,h7⟩;have:=hS e (by omega) (by omega) (by omega) (y.fAb - 1).toNat (by omega) (by rw [Q.2.2.2]; intro h; injection h with h; omega);omega
    ·rcases S.told d x (by omega) (by omega) (by rw [T.other d e]; exact h3) h4 with h6 | ⟨y,h6,h7,h8,h9⟩
     ·exact .inl h6
     ·exact .inr ⟨y,h6,h7,h8,fun e h10 h11 h12=>h9 e h10 (by omega) (by omega)⟩
   ·by_cases e:d = c
    ·subst e;rw [S.other d (by omega)];exact t4 x h3 h4 fun a ha hne=>h5 a ha (by omega)
    ·have Q:=hI.told d x ⟨h3,h4⟩;refine S.fin d x (by omega) (by omega) (by rw [T.other d e]; exact h3) h4 fun a ha h=>?_;by_cases e2:a = c
     ·subst e2;have:=T.self (x.fAb - 1).toNat (by omega) (by rw [Q.2.2.2]; intro h; injection h with h; omega);omega
     ·exact le_trans (h5 a (by omega) (by omega)) (T.up a)
  ·rw [turn_out hc];have S:=rB hp n (c:=c + 1) (false || b) A (by omega) (by omega);obtain ⟨m2,hm2,hl2⟩:=S.own;have hn2:=S.now;have hno:∀ (d:Nat) (o:Option KC),k.calls[d]? = some o->d < k.calls.length:=fun d o h=>(List.getElem?_eq_some_iff.1 h).1;refine ⟨S.all,S.len,⟨m2,hm2,by omega⟩,S.up,S.lo,by show (KK.sweep n ((c + 1:Nat):Int) k (false || b)).1.now <= _; omega,fun d h=>?_,S.none_,?_,fun d h1 h2 h3=>by omega,fun d x h1 h2 h3 h4=>?_,fun d x h1 h2 h3 h4 h5=>?_⟩
   ·rcases h with h | h
    ·exact S.other d (by omega)
    ·exact S.other d (by omega)
   ·rw [S.busy];constructor
    ·rintro (h | ⟨d,x,h1,h2,h3⟩)
     ·exact .inl (by simpa using h)
     ·exact .inr ⟨d,x,by omega,by omega,h3⟩
    ·rintro (h | ⟨d,x,h1,h2,h3⟩)
     ·exact .inl (by simpa using h)
     ·have:=hno d _ h3; omega
   ·have:=hno d _ h3; omega
   ·have:=hno d _ h3; omega
structure Settled (P:KK->Prop) (cores:Nat) (k k':KK):Prop where
 all:P k'
 len:k'.calls.length = k.calls.length
 lo:k.now <= k'.now
 now:k'.now <= k.now + 3 * (cores * 5001)
 own:k'.fFa.1.length <= k.fFa.1.length + 3 * cores
 idle:∀ (d:Nat) x,k'.calls[d]? ≠ some (some x)
theorem uc (hp:Closed P) {cores m:Nat} {k:KK} (A:P k) (hc:k.calls.length <= cores) (hc8:cores <= 8) (hl:k.fFa.1.length <= 4900) (hn:k.now < 2 ^ 34) (h9:∀ (d:Nat) x,k.calls[d]? = some (some x)->x.fc.e0 ≠ 9) :
  (KK.settle cores (m + 3) k).1 = true/\Settled P cores k (KK.settle cores (m + 3) k).2:=by
 have q1:cores * 5001 <= 8 * 5001:=Nat.mul_le_mul_right _ hc8;have q2:((cores * 5001:Nat):Int) <= 8 * 5001:=by omega
 have q3:((cores * 5001:Nat):Int) = (cores:Int) * 5001:=by simp
 have inl:∀ {k:KK} {d:Nat} {o:Option KC},k.calls[d]? = some o->d < k.calls.length:=fun h=>(List.getElem?_eq_some_iff.1 h).1;have none_of:∀ {k k':KK} {b b':Bool},Swept P cores 0 k k' b b'->k.calls.length <= cores->b' = false->∀ (d:Nat) x,k'.calls[d]? ≠ some (some x):=by
  intro k k' b b' S hk hb d x h;have hd:=inl h;have hk':=S.len;rcases hcd:k.calls[d]? with _ | _ | y
  ·rw [List.getElem?_eq_none_iff] at hcd; omega
  ·rw [S.none_ d hcd] at h; cases h
  ·have:b' = true:=S.busy.2 (.inr ⟨d,y,zero_le _,by omega,hcd⟩);rw [hb] at this; cases this
 have S1:=rB hp cores (c:=0) (k:=k) false A (by omega) (by omega);rw [show m + 3 = (m + 2) + 1 from rfl,KK.settle];rw [show KK.sweep cores 0 k false = KK.sweep cores ((0:Nat):Int) k false from rfl];generalize KK.sweep cores ((0:Nat):Int) k false = z1 at *
 obtain ⟨k1,b1⟩:=z1
 dsimp only at *
 obtain ⟨m1,hm1,hl1⟩:=S1.own;have hl1':k1.fFa.1.length <= k.fFa.1.length + cores:=by rw [hm1,length_append]; omega
 have n1:=S1.now;by_cases hb1:b1 = false
 ·rw [if_pos hb1];exact ⟨rfl,S1.all,S1.len,S1.lo,by show k1.now <= _; omega,by show k1.fFa.1.length <= _; omega,none_of S1 hc hb1⟩
 ·rw [if_neg hb1];have len1:=S1.len;have S2:=rB hp cores (c:=0) (k:=k1) false S1.all (by omega) (by omega);have all1:∀ (d:Nat) x,k1.calls[d]? = some (some x)->x.fPa = true/\∀ e,d < e->e < k1.calls.length->x.fAb <= fTa k1 e:=by
   intro d x h;have hd:=inl h;rcases hcd:k.calls[d]? with _ | _ | y
   ·rw [List.getElem?_eq_none_iff] at hcd; omega
   ·rw [S1.none_ d hcd] at h; cases h
   ·rcases S1.told d y (zero_le _) (by omega) hcd (h9 d y hcd) with h1 | ⟨z,h1,h2,h3,h4⟩
    ·rw [h1] at h; cases h
    ·rw [h1] at h; cases h;exact ⟨h2,fun e he hl=>h4 e he (by omega) (by omega)⟩
  have idle2:∀ (d:Nat) x,(KK.sweep cores ((0:Nat):Int) k1 false).1.calls[d]? ≠ some (some x):=by
   intro d x h;have hd:=inl h;have len2:=S2.len;rcases hcd:k1.calls[d]? with _ | _ | y
   ·rw [List.getElem?_eq_none_iff] at hcd; omega
   ·rw [S2.none_ d hcd] at h; cases h
   ·obtain ⟨g1,g2⟩:=all1 d y hcd;have:=S2.fin d y (zero_le _) (by omega) hcd g1 fun e he hh=>g2 e (by omega) he;rw [this] at h; cases h
  rw [show m + 2 = (m + 1) + 1 from rfl,KK.settle];rw [show KK.sweep cores 0 k1 false = KK.sweep cores ((0:Nat):Int) k1 false from rfl];obtain ⟨m2,hm2,hl2⟩:=S2.own;have hl2':(KK.sweep cores ((0:Nat):Int) k1 false).1.fFa.1.length <= k1.fFa.1.length + cores:=by rw [hm2,length_append]; omega
  have n2:=S2.now;have o1:=S1.lo;have o2:=S2.lo;have len2:=S2.len;generalize KK.sweep cores ((0:Nat):Int) k1 false = z2 at *
  obtain ⟨k2,b2⟩:=z2
  dsimp only at *
  by_cases hb2:b2 = false
  ·rw [if_pos hb2];exact ⟨rfl,S2.all,by show k2.calls.length = _; omega,by show k.now <= k2.now; omega,by show k2.now <= _; omega,by show k2.fFa.1.length <= _; omega,idle2⟩
  ·rw [if_neg hb2];have S3:=rB hp cores (c:=0) (k:=k2) false S2.all (by omega) (by omega);rw [show m + 1 = m + 1 from rfl,KK.settle];rw [show KK.sweep cores 0 k2 false = KK.sweep cores ((0:Nat):Int) k2 false from rfl];obtain ⟨m3,hm3,hl3⟩:=S3.own;have hl3':(KK.sweep cores ((0:Nat):Int) k2 false).1.fFa.1.length <= k2.fFa.1.length + cores:=by rw [hm3,length_append]; omega
   have n3:=S3.now;have o3:=S3.lo;have len3:=S3.len;have hb3:(KK.sweep cores ((0:Nat):Int) k2 false).2 = false:=by
    cases hz:(KK.sweep cores ((0:Nat):Int) k2 false).2 with
    | false=>rfl
    | true =>
     rcases S3.busy.1 hz with h | ⟨d,x,_,_,h⟩
     ·cases h
     ·exact absurd h (idle2 d x)
   rw [if_pos hb3];exact ⟨rfl,S3.all,by show (KK.sweep cores ((0:Nat):Int) k2 false).1.calls.length = _; omega,by show k.now <= (KK.sweep cores ((0:Nat):Int) k2 false).1.now; omega,by show (KK.sweep cores ((0:Nat):Int) k2 false).1.now <= _; omega,by show (KK.sweep cores ((0:Nat):Int) k2 false).1.fFa.1.length <= _; omega,none_of S3 (by omega) hb3⟩
theorem IE.ended {k:KK} (A:IE k) (h:∀ (d:Nat) x,k.calls[d]? ≠ some (some x)):∀ e ∈ k.events,e.fXa ≠ 0/\e.fHa ≠ 0:=by
 intro e he;obtain ⟨i,hi⟩:=List.getElem?_of_mem he;have h0:e.fHa ≠ 0:=fun h0=>by
  obtain ⟨x,hx,_⟩:=A.ev.open_ i e hi h0;exact h _ x hx
 rcases (A.ev.one i e hi).st with s | s
 ·exact absurd s.1 h0
 ·exact ⟨by rw [s.2.1]; exact h0,h0⟩
end
section
open Go Mb
theorem mem_othersFrom {k:PK} {es:List bp} {env pg j:Int}:∀ {L:List Int},j ∈ L->fMa.takes (fMa.ev es j) = true->PK.q (PK.do_ k (fMa.ev es j).fCa (fMa.ev es j).fIa).2 env pg ∈ fMa.fHb k es env pg L
 | i::L,h,ht=>by
  rw [fMa.fHb];rcases mem_cons.1 h with rfl | h
  ·rw [if_pos ht]; exact List.mem_cons_self
  ·have:=mem_othersFrom (k:=k) (env:=env) (pg:=pg) h ht;split
   ·exact List.mem_cons_of_mem _ this
   ·exact this
theorem eqb_answer (a:eQ):ab.eqb a a = true:=by simp [ab.eqb]
theorem eqb_line (a:jO):ap.eqb a a = true:=by simp [ap.eqb]
def yd (kind:Int):Int:=if kind = 20 then 1 else if kind = 21 then 2 else 3
theorem lets_need {kind:Int} (h:20 <= kind/\kind <= 23) (r:Int):ct r kind = aO (yd kind) r:=by
 have:kind = 20\/kind = 21\/kind = 22\/kind = 23:=by omega
 rcases this with rfl | rfl | rfl | rfl <;> rfl
theorem left_frame {p:PK} {x:KC} {a pg:Int} {qq:Pte} (h:(KK.left p x a pg qq).fBa ≠ 0):(KK.left p x a pg qq).fEa = qq.fEa/\(KK.left p x a pg qq).fDa = qq.fDa:=by
 unfold KK.left at h ⊢;by_cases h7:x.fc.e0 = 7
 ·rw [if_pos h7] at h ⊢;split
  ·rename_i hh; rw [if_pos hh] at h; exact absurd rfl h
  ·exact ⟨rfl,rfl⟩
 ·rw [if_neg h7] at h ⊢;by_cases h8:x.fc.e0 = 8
  ·rw [if_pos h8]; split <;> exact ⟨rfl,rfl⟩
  ·rw [if_neg h8] at h ⊢;split
   ·rename_i hh; rw [if_pos hh] at h; exact absurd rfl h
   ·exact ⟨rfl,rfl⟩
theorem xY {p:PK} {a pg:Int}:∀ (cs:List (Option KC)) (qq:Pte),KK.fEb p a pg cs false qq = (qq,false)
 | [],_=>rfl
 | none::cs,qq=>by rw [KK.fEb]; exact xY cs qq
 | some x::cs,qq=>by rw [KK.fEb,if_neg (fun h=>Bool.false_ne_true h.1)]; exact xY cs qq
theorem vv {p:PK} {a pg:Int}:∀ (cs:List (Option KC)) (b:Bool) (qq:Pte),(KK.fEb p a pg cs b qq).1.fBa ≠ 0->(KK.fEb p a pg cs b qq).1.fEa = qq.fEa/\(KK.fEb p a pg cs b qq).1.fDa = qq.fDa
 | [],_,_,_=>⟨rfl,rfl⟩
 | none::cs,b,qq,h=>by rw [KK.fEb] at h ⊢; exact vv cs b qq h
 | some x::cs,b,qq,h=>by
  rw [KK.fEb] at h ⊢;by_cases hc:b = true/\x.fPa = true
  ·rw [if_pos hc] at h ⊢;by_cases hz:(KK.left p x a pg qq).fBa = 0
   ·rw [hz] at h;have:((0:Int) != 0) = false:=rfl;rw [this,xY] at h;exact absurd hz h
   ·obtain ⟨a1,a2⟩:=vv cs _ _ h;obtain ⟨b1,b2⟩:=left_frame hz;exact ⟨a1.trans b1,a2.trans b2⟩
  ·rw [if_neg hc] at h ⊢; exact vv cs b qq h
theorem put_well {p:Pte} (h:0 <= p.fEa/\p.fEa < 16/\0 <= p.fDa/\p.fDa < 8) (hr:1 <= p.fBa/\p.fBa <= 3):(fw p).2 = true:=by
 unfold fw;cases hq:ao.eqb p ⟨0,0,0⟩ with
 | true=>rfl
 | false =>
  have:(((((decide (p.fEa < 0)) || (decide (p.fEa >= 16))) || (decide (p.fDa < 0))) || (decide (p.fDa >= 8))) || (!(ch p.fBa))) = false:=by
   rw [vM.2 hr]; simp; omega
  simp only [cond_false];rw [this]; rfl
theorem tabFor_seen {k:KK} (F:PK.Fine k.p) {e pg:Int} {l:jO} (hs:(KK.seen k e pg).2 = true) (hc:Cov (KK.seen k e pg).1 l) (hq:(PK.q k.p e pg).fBa ≠ 0):(Table.get (KK.fGb k e pg) pg).1 = (KK.seen k e pg).1:=by
 have hr:=hc.r;have hfs:(KK.seen k e pg).1.fEa = (PK.q k.p e pg).fEa/\(KK.seen k e pg).1.fDa = (PK.q k.p e pg).fDa:=by
  have h0:(KK.seen k e pg).1.fBa ≠ 0:=by omega
  unfold KK.seen at h0 ⊢;exact vv _ _ _ h0
 have hb:=F.by_ e pg hq;have hcap:(fAa.get k.p.caps e (PK.q k.p e pg).fDa).fBa ≠ 0:=by have:=(da hb.2.2).2; omega
 have hf:=PK.fine_frame F.ok.fine hb.1 hcap;have hsl:=(PK.has_iff F.ok).1 hb.1;have hsz:=fV.1 F.ok.sz;obtain ⟨_,hg,_⟩:=PK.q_on hq;have hpg:bA pg = true:=by
  by_cases hh:bA pg = true/\(Table.at_ (PK.tab k.p e) pg).fBa ≠ 0
  ·exact hh.1
  ·rw [Table.get_no hh] at hg; cases hg
 have hz:(Table.insert (replicate 8 dc) pg (KK.seen k e pg).1).1 = 0:=by
  unfold Table.insert;have key:∀ n,n < 8->((replicate 8 dc).getD n dc).fBa = 0:=by decide
  obtain ⟨n,e1,hn⟩:=nE hpg;have hat:(Table.at_ (replicate 8 dc) pg).fBa = 0:=by unfold Table.at_; rw [e1,toNat_natCast]; exact key n hn
  rw [if_neg,if_neg (by rw [hat]; simp)];rw [put_well (by rw [hfs.1,hfs.2,← hb.2.1]; omega) hr,hpg];simp; omega
 unfold KK.fGb;rw [if_pos hs,Table.get_insert (by simp) _ _ hz,if_pos rfl]
theorem stay_of_aft {p:PK} {e:Int} {c:cK} {a pg r:Int} (hq:(PK.q p a pg).fBa ≠ 0) (ht:Tk c) (h:aO r (PK.aft p e c a pg).fBa = true):Stay p e c a pg (PK.q p a pg).fDa r:=by
 have hno:∀ x:Pte,x = dc->aO r x.fBa = true->False:=fun x e1 h1=>by
  have:=(da h1).2; rw [e1] at this; simp at this
 unfold PK.aft at h;refine ⟨fun h7 ho=>?_,fun h8 e1 e2 hw=>?_,fun h45=>?_⟩
 ·rw [if_pos h7,if_pos ho] at h; exact hno _ rfl h
 ·rw [if_neg (by omega),if_pos h8,if_pos ⟨⟨e1,e2⟩,by subst e1; subst e2; exact ⟨hq,hw⟩⟩] at h;exact h
 ·cases hg:PK.gz p e c a (PK.q p a pg).fDa with
  | false=>rfl
  | true=>rw [if_neg (by omega),if_neg (by omega),if_pos ⟨hq,hg⟩] at h; exact (hno _ rfl h).elim
theorem kmem_has {fs:List (List Int)} {f a:Int} (h0:0 <= f) (h1:f < fs.length) (h2:0 <= a) (h3:a < 16):Mem.has fs f a:=⟨h0,h1,h2,h3⟩
theorem touch_well {k:PK} (ok:PK.Ok k) {f:Int} {c:cK} (cw:Cw c) (w:Well k.s.fJa c) (hu:20 <= c.e0) (h0:0 <= f) (h1:f < k.s.fCb):(PK.touch k f c).1.2 = true/\(PK.touch k f c).1.1.fRa = 0:=by
 have hk:=us w.kind;have h2:=w.w7 hu;have harg:Word.arg c 2 16 = (c.e2,true):=by
  have h3:(Word.arg c 2 16).2 = true:=(arg_of (by decide) (by decide) (by decide) (by decide)).2 h2;unfold Word.arg at h3 ⊢;split
  ·rename_i hh; rw [if_pos hh] at h3; cases h3
  ·show (i64.wrap c.e2,true) = _;rw [kwr cw.c2 h2]
 have hml:=ok.ml;have hm:Mem.has k.m f c.e2:=kmem_has h0 (by omega) cw.c2 h2;have hu':bE c.e0 = true:=by unfold bE; have:=w.kind; simp; omega
 have hld:(Mem.load k.m f c.e2).2 = true:=by unfold Mem.load; rw [if_pos hm]
 have hst:∀ v,(Mem.store k.m f c.e2 v).1 = true:=fun v=>by unfold Mem.store; rw [if_pos hm]
 unfold PK.touch;rw [hk,harg];simp only;rw [if_neg (by rw [hu']; simp)]
 repeat' split
 ·exact ⟨hld,rfl⟩
 ·exact ⟨hst _,rfl⟩
 ·refine ⟨?_,rfl⟩;unfold Mem.cas; split <;> exact hld
 ·refine ⟨?_,rfl⟩;unfold Mem.add; exact hld
theorem walk_cov {k:KK} (I:fA k) {c:Nat} (hc:c < k.calls.length) {x:KC} (h:(KK.fBb k c x).1.2 = true) (hkind:20 <= i64.wrap x.fc.e0/\i64.wrap x.fc.e0 <= 23):Cov (PK.q k.p x.fGa (i64.wrap x.fc.e1)) (KK.fBb k c x).1.1/\(KK.fBb k c x).1.1.fCa = x.fGa/\(KK.fBb k c x).1.1.fOa = i64.wrap x.fc.e1/\ct (KK.fBb k c x).1.1.fBa (i64.wrap x.fc.e0) = true:=by
 unfold KK.fBb at h ⊢;rw [kbuf_nat] at h ⊢;unfold User.walk at h ⊢;split
 ·rename_i hf;have f:=Tlb.find_in (I.tok c hc) hf.1;have L:=I.line c hc _ f.1 (by rw [f.2.1]; exact f.2.2.2);have hcov:=L.cov;rw [f.2.1,f.2.2.1] at hcov;exact ⟨hcov,f.2.1,f.2.2.1,hf.2⟩
 ·rename_i hnf;rw [if_neg hnf] at h;split
  ·rename_i hl; rw [if_pos hl] at h; cases h
  ·rename_i hl;have hl':ct (Table.get (KK.fGb k x.fGa (i64.wrap x.fc.e1)) (i64.wrap x.fc.e1)).1.fBa (i64.wrap x.fc.e0) = true:=by simpa using hl
   have hr:=(da ((lets_need hkind _) ▸ hl')).2;obtain ⟨s1,s2⟩:=tabFor_get k x.fGa (i64.wrap x.fc.e1) (by omega);refine ⟨?_,rfl,rfl,hl'⟩;have hcov:Cov (KK.seen k x.fGa (i64.wrap x.fc.e1)).1 (⟨x.fGa,i64.wrap x.fc.e1,(Table.get (KK.fGb k x.fGa (i64.wrap x.fc.e1)) (i64.wrap x.fc.e1)).1.fEa,(Table.get (KK.fGb k x.fGa (i64.wrap x.fc.e1)) (i64.wrap x.fc.e1)).1.fBa⟩:jO):=by
    refine ⟨?_,?_⟩
    ·show (KK.seen k x.fGa (i64.wrap x.fc.e1)).1.fEa = (Table.get (KK.fGb k x.fGa (i64.wrap x.fc.e1)) (i64.wrap x.fc.e1)).1.fEa;rw [s2]
    ·show aO (Table.get (KK.fGb k x.fGa (i64.wrap x.fc.e1)) (i64.wrap x.fc.e1)).1.fBa (KK.seen k x.fGa (i64.wrap x.fc.e1)).1.fBa = true;rw [← s2]; exact within_refl hr
   exact ((seen_cov I.en I.F I.tell_all _ _ _).1 ⟨s1,hcov⟩).1
theorem walk_fault {k:KK} (I:fA k) {c:Nat} {x:KC} (h:(KK.fBb k c x).1.2 = false) (hkind:20 <= i64.wrap x.fc.e0/\i64.wrap x.fc.e0 <= 23):ct (PK.q k.p x.fGa (i64.wrap x.fc.e1)).fBa (i64.wrap x.fc.e0) = false\/∃ d y,Tells k d y/\ct (PK.q (PK.do_ k.p y.fGa y.fc).2 x.fGa (i64.wrap x.fc.e1)).fBa (i64.wrap x.fc.e0) = false:=by
 have hl:ct (Table.get (KK.fGb k x.fGa (i64.wrap x.fc.e1)) (i64.wrap x.fc.e1)).1.fBa (i64.wrap x.fc.e0) = false:=by
  unfold KK.fBb User.walk at h;split at h
  ·cases h
  ·split at h
   ·rename_i hh; exact hh
   ·cases h
 rw [lets_need hkind] at hl ⊢;cases hq:aO (yd (i64.wrap x.fc.e0)) (PK.q k.p x.fGa (i64.wrap x.fc.e1)).fBa with
 | false=>exact .inl rfl
 | true =>
  right
  have hne:(PK.q k.p x.fGa (i64.wrap x.fc.e1)).fBa ≠ 0:=by have:=(da hq).2; omega
  by_cases hall:∀ y,some y ∈ k.calls->y.fPa = true->Stay k.p y.fGa y.fc x.fGa (i64.wrap x.fc.e1) (PK.q k.p x.fGa (i64.wrap x.fc.e1)).fDa (yd (i64.wrap x.fc.e0))
  ·exfalso
   obtain ⟨s1,s2⟩:=(seen_cov I.en I.F I.tell_all x.fGa (i64.wrap x.fc.e1) (⟨x.fGa,i64.wrap x.fc.e1,(PK.q k.p x.fGa (i64.wrap x.fc.e1)).fEa,yd (i64.wrap x.fc.e0)⟩:jO)).2 ⟨⟨rfl,hq⟩,hall⟩;rw [tabFor_seen I.F s1 s2 hne,s2.w] at hl;cases hl
  ·simp only [Classical.not_forall] at hall;obtain ⟨y,hy,hty,hns⟩:=hall;obtain ⟨d,hd⟩:=calls_mem hy;refine ⟨d,y,⟨hd,hty⟩,?_⟩;have T:=I.teller ⟨hd,hty⟩;have hcs:=I.ok.cs y hy;rw [lets_need hkind,PK.do_q I.F T.w (PK.off_iff.2 ⟨hcs.2.2.1,hcs.2.2.2⟩) T.k T.t];cases ha:aO (yd (i64.wrap x.fc.e0)) (PK.aft k.p y.fGa y.fc x.fGa (i64.wrap x.fc.e1)).fBa with
   | false=>rfl
   | true=>exact absurd (stay_of_aft hne T.t ha) hns
theorem access_good {k:KK} (I:fA k) {c:Nat} (hc:c < k.calls.length) {x:KC} (hx:k.calls[c]? = some (some x)) (hu:bE (az x.fc).1 = true) {es:List bp} {e:bp} (h1:e.fIa = x.fc) (h2:e.fCa = x.fGa) (h3:e.fYa = (KK.access k c x).1.1) (h4:e.fUa = (KK.access k c x).1.2)
  (hov:∀ d y,Tells k d y->y.fat ∈ Hist.over es e.fHa/\(fMa.ev es y.fat).fIa = y.fc/\(fMa.ev es y.fat).fCa = y.fGa):fMa.access k.p es k.p.s e = true/\(if fMa.well k.p.s e = true then (PK.touch k.p e.fUa.fEa e.fIa).2 else k.p) = (KK.access k c x).2.p:=by
 have cw:=I.cw c x hx;unfold fMa.access fMa.well;rw [h1,h2,h3,h4];unfold KK.access;by_cases hk:Word.check x.fc k.p.s.fJa ≠ 0
 ·rw [if_pos hk,if_pos hk];simp only;refine ⟨by rw [eqb_answer,eqb_line]; rfl,?_⟩;have:(Word.check x.fc k.p.s.fJa == 0) = false:=by simpa using hk
  rw [this]; simp
 ·rw [if_neg hk,if_neg hk];have hk0:Word.check x.fc k.p.s.fJa = 0:=by simpa using hk
  have w:=sY I.en.1 I.en.2 hk0;have hkv:=us w.kind;have hu0:20 <= x.fc.e0/\x.fc.e0 <= 23:=by rw [hkv] at hu; unfold bE at hu; simpa using hu
  have hw0:=PK.w0 w;have hkind:20 <= i64.wrap x.fc.e0/\i64.wrap x.fc.e0 <= 23:=by rw [hw0]; exact hu0
  by_cases hf:(KK.fBb k c x).1.2 = false
  ·rw [if_pos hf];simp only [if_true];refine ⟨?_,by simp⟩;rw [eqb_line];have hfa:fMa.faults e (fMa.others k.p es e.fHa x.fGa (i64.wrap x.fc.e1)) = true:=by
    unfold fMa.faults fMa.others;rw [h1,List.any_eq_true];rcases walk_fault I hf hkind with h | ⟨d,y,hy,h⟩
    ·exact ⟨_,List.mem_cons_self,by show (!(ct (PK.q k.p x.fGa (i64.wrap x.fc.e1)).fBa _)) = true; rw [h]; rfl⟩
    ·obtain ⟨o1,o2,o3⟩:=hov d y hy;have T:=I.teller hy;have htk:fMa.takes (fMa.ev es y.fat) = true:=by
      have wy:=sY I.en.1 I.en.2 T.k;have:=T.t;unfold fMa.takes;rw [o2,us wy.kind];unfold Tk at this;rcases this with h | h | h | h <;> simp [h]
     have hm:=mem_othersFrom (k:=k.p) (env:=x.fGa) (pg:=i64.wrap x.fc.e1) o1 htk;rw [o2,o3] at hm;exact ⟨_,List.mem_cons_of_mem _ hm,by rw [h]; rfl⟩
   rw [hfa]; rfl
  ·rw [if_neg hf];have hf':(KK.fBb k c x).1.2 = true:=by simpa using hf
   obtain ⟨cv,e1,e2,e3⟩:=walk_cov I hc hf' hkind;have hne:(PK.q k.p x.fGa (i64.wrap x.fc.e1)).fBa ≠ 0:=by have:=cv.r; omega
   have hb:=I.F.by_ _ _ hne;have hcap:(fAa.get k.p.caps x.fGa (PK.q k.p x.fGa (i64.wrap x.fc.e1)).fDa).fBa ≠ 0:=by have:=(da hb.2.2).2; omega
   have hfr:=PK.fine_frame I.F.ok.fine hb.1 hcap;rw [hb.2.1,cv.f] at hfr;obtain ⟨t1,t2⟩:=touch_well I.F.ok cw w hu0.1 hfr.1 hfr.2;have hlr:=(da cv.w).1;simp only;rw [t2,if_neg (by decide)];have hgo:fMa.goes e (fMa.others k.p es e.fHa x.fGa (i64.wrap x.fc.e1)) = true:=by
    unfold fMa.goes fMa.others;rw [h4,List.any_eq_true];refine ⟨_,List.mem_cons_self,?_⟩;unfold KK.access;rw [if_neg hk,if_neg hf];show ((PK.q k.p x.fGa (i64.wrap x.fc.e1)).fEa == _ && _) = true;rw [cv.f];show ((_ == _) && aO _ (PK.q k.p x.fGa (i64.wrap x.fc.e1)).fBa) = true;rw [cv.w]; simp
   have hown:fMa.own e = true:=by
    unfold fMa.own;rw [h1,h2,h4];unfold KK.access;rw [if_neg hk,if_neg hf];simp only;rw [e1,e2,e3]; simp
   rw [hgo,hown,t1,eqb_answer,hk0];refine ⟨rfl,?_⟩;rw [if_pos];simp; omega
end
section
open Go Mb
namespace fMa
def jstep (es:List bp) (s:eR) (k:PK) (i:Int):PK:=if fP (ev es i) = true then (if well s (ev es i) = true then (PK.touch k (ev es i).fUa.fEa (ev es i).fIa).2 else k) else (PK.do_ k (ev es i).fCa (ev es i).fIa).2
def good (es:List bp) (s:eR) (k:PK) (i:Int):Prop:=(fP (ev es i) = true->access k es s (ev es i) = true)/\(fP (ev es i) = false->(PK.do_ k (ev es i).fCa (ev es i).fIa).1.2 = true/\(PK.do_ k (ev es i).fCa (ev es i).fIa).1.1 = (ev es i).fYa)
def Good (es:List bp) (s:eR):PK->List Int->Prop
 | _,[]=>True
 | k,i::l=>good es s k i/\Good es s (jstep es s k i) l
def jrun (es:List bp) (s:eR):PK->List Int->PK
 | k,[]=>k
 | k,i::l=>jrun es s (jstep es s k i) l
theorem run_good {es:List bp} {s:eR} (lin acc:Bool):∀ {l:List Int} {k:PK},Good es s k l->runFrom es s lin acc k l = (-1,true)
 | [],_,_=>rfl
 | i::l,k,⟨g,h⟩=>by
  have ih:=run_good lin acc h;rw [runFrom];unfold jstep at ih;by_cases hu:fP (ev es i) = true
  ·rw [if_pos hu] at ih ⊢;rw [if_neg (by rw [g.1 hu]; simp)];exact ih
  ·rw [if_neg hu] at ih ⊢;have g2:=g.2 (by simpa using hu);rw [if_neg,ih];rintro ⟨_,h1 | h1⟩
   ·rw [g2.1] at h1; cases h1
   ·rw [g2.2,eqb_answer] at h1; cases h1
theorem Good_app {es:List bp} {s:eR} {i:Int}:∀ {l:List Int} {k:PK},Good es s k l->good es s (jrun es s k l) i->Good es s k (l++[i])
 | [],_,_,g=>⟨g,trivial⟩
 | _::_,_,⟨a,b⟩,g=>⟨a,Good_app b g⟩
theorem jrun_app {es:List bp} {s:eR} {i:Int}:∀ {l:List Int} {k:PK},jrun es s k (l++[i]) = jstep es s (jrun es s k l) i
 | [],_=>rfl
 | _::l,_=>jrun_app (l:=l)
structure Alike (es es':List bp) (i:Int):Prop where
 e:ev es' i = ev es i
 o:Hist.over es' (ev es i).fHa = Hist.over es (ev es i).fHa
 c:∀ j ∈ Hist.over es (ev es i).fHa,(ev es' j).fIa = (ev es j).fIa/\(ev es' j).fCa = (ev es j).fCa
theorem wY {k:PK} {es es':List bp} {env pg:Int}:∀ {L:List Int},(∀ j ∈ L,(ev es' j).fIa = (ev es j).fIa/\(ev es' j).fCa = (ev es j).fCa)->fHb k es' env pg L = fHb k es env pg L
 | [],_=>rfl
 | i::L,h=>by
  have h1:=h i (by simp);have ih:=wY (k:=k) (env:=env) (pg:=pg) (L:=L) (fun j hj=>h j (by simp [hj]));have ht:takes (ev es' i) = takes (ev es i):=by unfold takes; rw [h1.1]
  rw [fHb,fHb,ht,h1.1,h1.2,ih]
theorem Alike.access {es es':List bp} {i:Int} (A:Alike es es' i) (k:PK) (s:eR):access k es' s (ev es' i) = access k es s (ev es i):=by
 have ho:others k es' (ev es i).fHa (ev es i).fCa (i64.wrap (ev es i).fIa.e1) = others k es (ev es i).fHa (ev es i).fCa (i64.wrap (ev es i).fIa.e1):=by
  unfold others;rw [A.o,wY A.c]
 unfold fMa.access;rw [A.e,ho]
theorem Alike.good {es es':List bp} {i:Int} (A:Alike es es' i) {k:PK} {s:eR} (g:good es s k i):good es' s k i:=by
 have h:=A.access k s;unfold fMa.good at g ⊢;rw [h,A.e]; exact g
theorem Alike.jstep {es es':List bp} {i:Int} (A:Alike es es' i) (k:PK) (s:eR):jstep es' s k i = jstep es s k i:=by
 unfold fMa.jstep; rw [A.e]
theorem Good_alike {es es':List bp} {s:eR}:∀ {l:List Int} {k:PK},(∀ i ∈ l,Alike es es' i)->Good es s k l->Good es' s k l/\jrun es' s k l = jrun es s k l
 | [],_,_,_=>⟨trivial,rfl⟩
 | i::l,k,h,⟨a,b⟩=>by
  have A:=h i (by simp);obtain ⟨h1,h2⟩:=Good_alike (l:=l) (fun j hj=>h j (by simp [hj])) b;have ej:=A.jstep k s;refine ⟨⟨A.good a,by rw [ej]; exact h1⟩,?_⟩;rw [jrun,jrun,ej]; exact h2
end fMa
theorem ev_get {es:List bp} {n:Nat} {e:bp} (h:es[n]? = some e):fMa.ev es n = e:=by simp [fMa.ev,h]
theorem placesFrom_set (P:bp->Bool):∀ (es:List bp) (n:Nat) (d e:bp) (i:Int),es[n]? = some d->P e = P d->Hist.fFb P (es.set n e) i = Hist.fFb P es i
 | [],_,_,_,_,h,_=>by simp at h
 | a::es,0,d,e,i,h,hp=>by
  simp at h; subst h;rw [List.set_cons_zero,Hist.fFb,Hist.fFb,hp]
 | a::es,n + 1,d,e,i,h,hp=>by
  rw [List.set_cons_succ,Hist.fFb,Hist.fFb,placesFrom_set P es n d e (i + 1) (by simpa using h) hp]
theorem wk (P:bp->Bool):∀ (es:List bp) (i:Int),(Hist.fFb P es i).Nodup
 | [],_=>.nil
 | e::es,i=>by
  rw [Hist.fFb];split
  ·refine List.nodup_cons.2 ⟨fun h=>?_,wk P es (i + 1)⟩;obtain ⟨n,_,_,h2,_⟩:=Hist.mem_placesFrom.1 h;omega
  ·exact wk P es (i + 1)
structure Log (k:KK) (log:List Int):Prop where
 mem:∀ i,i ∈ log↔∃ (n:Nat) (e:bp),k.events[n]? = some e/\i = n/\e.fHa > 0
 up:log.Pairwise (fun a b=>Hist.eff k.events a < Hist.eff k.events b)
 good:fMa.Good k.events k.p.s (PK.new k.p.s) log
 run:fMa.jrun k.events k.p.s (PK.new k.p.s) log = k.p
theorem Log.nodup {k:KK} {log:List Int} (L:Log k log):log.Nodup:=L.up.imp (fun h e=>by rw [e] at h; exact absurd h (Int.lt_irrefl _))
theorem jN.apart {k:KK} (E:jN k):Hist.Apart k.events:=by
 intro a b ha hb he;obtain ⟨n,d,h1,rfl,h2⟩:=Hist.mem_places.1 ha;obtain ⟨m,e,h3,rfl,h4⟩:=Hist.mem_places.1 hb;rw [Hist.eff_nat h1,Hist.eff_nat h3] at he;have:=E.ef n m d e h1 h3 (by simpa using h2) he;rw [this]
theorem Log.order {k:KK} {log:List Int} (E:jN k) (L:Log k log):log = Hist.order k.events:=by
 refine Hist.order_of E.apart ?_ (L.up.imp (fun h=>Int.le_of_lt h));refine (List.perm_ext_iff_of_nodup L.nodup (wk _ _ _)).2 fun i=>?_;rw [L.mem];show _↔i ∈ Hist.places _ _;rw [Hist.mem_places];simp
theorem log_new (s:eR):Log (KK.new s) []:=by
 refine ⟨fun i=>?_,.nil,trivial,rfl⟩;simp [KK.new]
theorem Log.same {k k':KK} {log:List Int} (L:Log k log) (he:k'.events = k.events) (hp:k'.p = k.p):Log k' log:=by
 obtain ⟨a,b,c,d⟩:=L;exact ⟨fun i=>by rw [he]; exact a i,by rw [he]; exact b,by rw [he,hp]; exact c,by rw [he,hp]; exact d⟩
theorem jN.mayFrom {k:KK} (E:jN k):∀ (n:Nat) (es:List bp),k.events.drop n = es->∀ (uL:Int) (seen:List Int) (ends:List (Int × Int)),
  (∀ i e,i < n->k.events[i]? = some e->e.fSa <= uL\/n = 0)->(n = 0->uL = 0)->(0 < n->∃ e,k.events[n - 1]? = some e/\uL = e.fSa) ->
  (∀ x ∈ seen,∃ (i:Nat) (e:bp),i < n/\k.events[i]? = some e/\x = e.fHa) ->
  (∀ c v,Hist.endOf ends c = some v->∃ (i:Nat) (e:bp),i < n/\k.events[i]? = some e/\e.fQa = c/\v = e.fXa)->Hist.mayFrom k.p.s es uL seen ends = true
 | _,[],_,_,_,_,_,_,_,_,_=>rfl
 | n,e::es,hd,uL,seen,ends,h1,h2,h3,h4,h5=>by
  have hn:k.events[n]? = some e:=by
   have:=congrArg (fun l=>l[0]?) hd;simpa using this
  have o:=E.one n e hn;have hlast:uL < e.fSa:=by
   rcases Nat.eq_zero_or_pos n with h0 | h0
   ·rw [h2 h0]; have:=o.b0; omega
   ·obtain ⟨d,hd1,rfl⟩:=h3 h0;exact E.up (n - 1) n d e (by omega) hd1 hn
  have hone:fd e k.p.s uL = true:=by
   unfold fd;have c1:(((((decide (e.fQa < 0)) || (decide (e.fQa >= k.p.s.fWa))) || (decide (e.fCa < 0))) || (decide (e.fCa >= k.p.s.fJa))) || (decide (e.fSa <= uL))) = false:=by
    have:=o.c0; have:=o.c1; have:=o.v0; have:=o.v1;simp; omega
   rw [c1];simp only [cond_false];rcases o.st with s | s
   ·simp [s.1,s.2]
   ·have hb:=o.b0;have:(e.fHa == 0) = false:=by simp; omega
    rw [this];simp only [cond_false];simp; omega
  rw [Hist.mayFrom];rw [if_neg]
  ·rw [if_neg]
   ·refine jN.mayFrom E (n + 1) es ?_ e.fSa _ _ (fun i d hi hd1=>?_) (fun h=>by omega) (fun _=>⟨e,by simpa using hn,rfl⟩) (fun x hx=>?_) (fun c v hv=>?_)
    ·rw [← List.drop_drop,hd]; rfl
    ·left
     rcases lt_or_ge i n with h | h
     ·exact Int.le_of_lt (E.up i n d e h hd1 hn)
     ·have:i = n:=by omega
      subst this; rw [hn] at hd1; cases hd1; exact le_refl _
    ·rcases mem_cons.1 hx with rfl | hx
     ·exact ⟨n,e,by omega,hn,rfl⟩
     ·obtain ⟨i,d,a1,a2,a3⟩:=h4 x hx;exact ⟨i,d,by omega,a2,a3⟩
    ·unfold Hist.endOf at hv;rw [List.find?_cons] at hv;by_cases hc:(e.fQa == c) = true
     ·rw [hc] at hv;simp at hv;exact ⟨n,e,by omega,hn,by simpa using hc,hv.symm⟩
     ·have hc':(e.fQa == c) = false:=by simpa using hc
      rw [hc'] at hv;obtain ⟨i,d,a1,a2,a3⟩:=h5 c v hv;exact ⟨i,d,by omega,a2,a3⟩
   ·unfold Hist.stops;split
    ·rename_i v hv;obtain ⟨i,d,a1,a2,a3,rfl⟩:=h5 _ _ hv;have:=E.co i n d e a1 a2 hn a3;simp; omega
    ·simp
  ·rintro (h | ⟨h,hm⟩)
   ·rw [hone] at h; cases h
   ·obtain ⟨i,d,a1,a2,a3⟩:=h4 _ hm;have:=E.ef n i e d hn a2 h a3;omega
theorem jN.may {k:KK} (E:jN k):Hist.may k.events k.p.s = true :=
 E.mayFrom 0 k.events rfl 0 [] [] (fun i e h=>by omega) (fun _=>rfl) (fun h=>by omega) (fun x hx=>by cases hx) (fun c v hv=>by cases hv)
theorem right_of {k:KK} {log:List Int} (E:jN k) (L:Log k log):fMa.right k.events k.p.s = true/\fMa.linear k.events k.p.s = (-1,true)/\fMa.accesses k.events k.p.s = (-1,true):=by
 have h:∀ a b,fMa.run k.events k.p.s a b = (-1,true):=fun a b=>by
  unfold fMa.run;rw [if_pos E.may,← L.order E];exact fMa.run_good a b L.good
 refine ⟨?_,h true false,h false true⟩;unfold fMa.right fMa.linear fMa.accesses;rw [h,h]; rfl
end
section
open Go Mb
theorem ev_set {es:List bp} {n:Nat} {e0 e':bp} (h:es[n]? = some e0) (j:Int):fMa.ev (es.set n e') j = if j.toNat = n then e' else fMa.ev es j:=by
 have hlt:=(List.getElem?_eq_some_iff.1 h).1;simp only [fMa.ev,getD_eq_getElem?_getD,getElem?_set];by_cases e:n = j.toNat
 ·rw [if_pos e,if_pos e.symm,if_pos hlt]; rfl
 ·rw [if_neg e,if_neg (fun x=>e x.symm)]
theorem Log.effect {k k':KK} {log:List Int} (L:Log k log) {n:Nat} {e0:bp} {a:eQ} {l:jO} (h0:k.events[n]? = some e0) (hz:e0.fHa = 0) (hlate:∀ (i:Nat) e,k.events[i]? = some e->e.fSa < k.now/\e.fHa < k.now) (hn:0 < k.now)
  (he:k'.events = k.events.set n (KK.evend e0 k.now a l)) (hs:k'.p.s = k.p.s) (hg:fMa.good k'.events k.p.s k.p n) (hj:fMa.jstep k'.events k.p.s k.p n = k'.p):Log k' (log++[(n:Int)]):=by
 have hlt:=(List.getElem?_eq_some_iff.1 h0).1;have hev:=fun j=>ev_set (e':=KK.evend e0 k.now a l) h0 j;have alike:∀ i ∈ log,fMa.Alike k.events k'.events i:=by
  intro i hi;obtain ⟨m,e,g1,rfl,g2⟩:=(L.mem i).1 hi;have hmn:m ≠ n:=by rintro rfl; rw [h0] at g1; cases g1; omega
  have hl:=hlate m e g1;rw [he];refine ⟨by rw [hev,if_neg (by simpa using hmn)],?_,fun j _=>?_⟩
  ·rw [ev_get g1];unfold Hist.over Hist.places;refine placesFrom_set _ _ _ e0 _ _ h0 ?_;show (decide (e0.fSa <= e.fHa) && (k.now == 0 || decide (k.now > e.fHa))) = (decide (e0.fSa <= e.fHa) && (e0.fHa == 0 || decide (e0.fHa > e.fHa)))
   rw [hz,decide_eq_true (show k.now > e.fHa from hl.2)];simp
  ·rw [hev];split
   ·rename_i hjn;have:fMa.ev k.events j = e0:=by simp [fMa.ev,hjn,h0]
    rw [this]; exact ⟨rfl,rfl⟩
   ·exact ⟨rfl,rfl⟩
 obtain ⟨g1,g2⟩:=fMa.Good_alike alike L.good;have heff:∀ i,Hist.eff k'.events i = if i.toNat = n then k.now else Hist.eff k.events i:=by
  intro i;have:=hev i;show (fMa.ev k'.events i).fHa = _;rw [he,this];split <;> rfl
 have hin:∀ i ∈ log,i.toNat ≠ n/\Hist.eff k.events i < k.now:=by
  intro i hi;obtain ⟨m,e,g1,rfl,g2⟩:=(L.mem i).1 hi;refine ⟨fun h=>?_,by rw [Hist.eff_nat g1]; exact (hlate m e g1).2⟩;rw [toNat_natCast] at h;subst h; rw [h0] at g1; cases g1; omega
 refine ⟨fun i=>?_,?_,?_,?_⟩
 ·rw [mem_append,List.mem_singleton,L.mem,he];constructor
  ·rintro (⟨m,e,a1,rfl,a2⟩ | rfl)
   ·have hmn:m ≠ n:=by rintro rfl; rw [h0] at a1; cases a1; omega
    exact ⟨m,e,by rw [getElem?_set,if_neg (fun h=>hmn h.symm)]; exact a1,rfl,a2⟩
   ·exact ⟨n,KK.evend e0 k.now a l,by rw [getElem?_set,if_pos rfl,if_pos hlt],rfl,hn⟩
  ·rintro ⟨m,e,a1,rfl,a2⟩;rw [getElem?_set] at a1;by_cases h:n = m
   ·exact .inr (by rw [h])
   ·rw [if_neg h] at a1; exact .inl ⟨m,e,a1,rfl,a2⟩
 ·refine pairwise_append.2 ⟨?_,List.pairwise_singleton _ _,fun x hx y hy=>?_⟩
  ·refine L.up.imp_of_mem fun {x y} hx hy hxy=>?_;rw [heff,heff,if_neg (hin x hx).1,if_neg (hin y hy).1]; exact hxy
  ·rw [List.mem_singleton.1 hy,heff,heff,if_neg (hin x hx).1,if_pos (by simp)];exact (hin x hx).2
 ·rw [hs];refine fMa.Good_app g1 ?_;rw [g2,L.run]; exact hg
 ·rw [hs,fMa.jrun_app,g2,L.run]; exact hj
theorem Log.begin {k:KK} {log:List Int} (L:Log k log) (E:jN k) {e0:bp} (hb:k.now < e0.fSa) (hz:e0.fHa = 0) {k':KK} (he:k'.events = k.events++[e0]) (hp:k'.p = k.p):Log k' log:=by
 have alike:∀ i ∈ log,fMa.Alike k.events k'.events i:=by
  intro i hi;obtain ⟨m,e,g1,rfl,g2⟩:=(L.mem i).1 hi;have hm:=(List.getElem?_eq_some_iff.1 g1).1;have hev:∀ j:Int,0 <= j->j < k.events.length->fMa.ev (k.events++[e0]) j = fMa.ev k.events j:=by
   intro j h0 h1;simp only [fMa.ev,getD_eq_getElem?_getD];rw [List.getElem?_append_left (by omega)]
  rw [he];refine ⟨hev _ (by omega) (by omega),?_,fun j hj=>?_⟩
  ·rw [ev_get g1];unfold Hist.over Hist.places;rw [Hist.placesFrom_app,if_neg,List.append_nil];have o:=E.one m e g1;have:e.fHa <= k.now:=by
    rcases o.st with s | s
    ·have:=o.b0; have:=o.b1; omega
    ·exact s.2.2
   simp; omega
  ·have:=Hist.places_in hj;rw [hev j this.1 this.2]; exact ⟨rfl,rfl⟩
 obtain ⟨g1,g2⟩:=fMa.Good_alike alike L.good;have heff:∀ i ∈ log,Hist.eff k'.events i = Hist.eff k.events i:=fun i hi=>by
  show (fMa.ev k'.events i).fHa = (fMa.ev k.events i).fHa;rw [(alike i hi).e]
 refine ⟨fun i=>?_,L.up.imp_of_mem fun {x y} hx hy hxy=>by rw [heff x hx,heff y hy]; exact hxy,by rw [hp]; exact g1,by rw [hp,g2]; exact L.run⟩;rw [L.mem,he];constructor
 ·rintro ⟨m,e,a1,rfl,a2⟩;exact ⟨m,e,by rw [List.getElem?_append_left (List.getElem?_eq_some_iff.1 a1).1]; exact a1,rfl,a2⟩
 ·rintro ⟨m,e,a1,rfl,a2⟩;rcases lt_or_ge m k.events.length with h | h
  ·rw [List.getElem?_append_left h] at a1; exact ⟨m,e,a1,rfl,a2⟩
  ·rw [List.getElem?_append_right h] at a1;by_cases e1:m - k.events.length = 0
   ·rw [e1] at a1;simp at a1;rw [← a1] at a2; omega
   ·rw [List.getElem?_eq_none (by simp; omega)] at a1; cases a1
structure All (k:KK):Prop extends IE k where
 lg:∃ log,Log k log
theorem all_new {s:eR} (h:PK.sized s = true):All (KK.new s):=⟨ie_new h,[],log_new s⟩
theorem All.begin {k:KK} (A:All k) (hn:k.now < 2 ^ 40) (core env:Int) {c:cK} (cw:Cw c):All (KK.begin_ k core env c).2:=by
 refine ⟨A.toIE.begin hn core env cw,?_⟩;obtain ⟨log,L⟩:=A.lg;refine ⟨log,?_⟩;have hw:=wrapN A.inv.ok.n0 hn;unfold KK.begin_;split
 ·exact L
 ·rw [hw];exact L.begin A.ev (e0:=KK.ev0 core env c (k.now + 1)) (by show k.now < k.now + 1; omega) rfl rfl rfl
theorem All.post {k:KK} (A:All k) (hn:k.now < 2 ^ 40) (c:Int):All (KK.post k c).2:=by
 have he:(KK.post k c).2.events = k.events/\(KK.post k c).2.p = k.p:=by
  unfold KK.post;split
  ·exact ⟨rfl,rfl⟩
  ·split <;> exact ⟨rfl,rfl⟩
 obtain ⟨log,L⟩:=A.lg;exact ⟨A.toIE.post hn c,log,L.same he.1 he.2⟩
theorem All.tick {k:KK} (A:All k) (hn:k.now < 2 ^ 40):All (KK.tick k):=by
 obtain ⟨log,L⟩:=A.lg;exact ⟨⟨A.inv.tick hn,tick_ev A.inv.ok A.ev hn⟩,log,L.same rfl rfl⟩
theorem work_log {k:KK} (A:All k) (hlate:∀ (i:Nat) e,k.events[i]? = some e->e.fSa < k.now/\e.fHa < k.now) (hn0:0 < k.now) {c:Nat} {x:KC} (hx:KK.call k c = some x) (hi:KK.is k c = true):∃ log,Log (KK.work k c x) log:=by
 have hc:c < k.calls.length:=by obtain ⟨n,e,h⟩:=kW hi; omega
 have hcx:=qZ hx;obtain ⟨log,L⟩:=A.lg;obtain ⟨n,hn,e0,g1,g2,g3,g4,g5⟩:=A.ev.call c x hcx;have setev:∀ (m:KK) (a:eQ) (l:jO),m.events = k.events->m.now = k.now->(KK.ends m c x a l).events = k.events.set n (KK.evend e0 k.now a l):=by
  intro m a l h1 h2;unfold KK.ends;rw [h1,h2,hn];simp only [toNat_natCast,getD_eq_getElem?_getD,g1,getD_some]
 have hev:∀ a l,fMa.ev (k.events.set n (KK.evend e0 k.now a l)) n = KK.evend e0 k.now a l:=fun a l=>by rw [ev_set g1,if_pos (by simp)]
 have juser:∀ a l,fP (KK.evend e0 k.now a l) = bE (az x.fc).1:=fun a l=>by
  unfold fP;show bE (az e0.fIa).1 = _;rw [g4]
 unfold KK.work;by_cases hu:bE (az x.fc).1 = true
 ·rw [if_pos hu];obtain ⟨h1,h2,h3,_,_⟩:=access_keep k c x;have he:=setev (KK.access k c x).2 (KK.access k c x).1.1 (KK.access k c x).1.2 h1 h2;refine ⟨log++[(n:Int)],?_⟩;have ag:=access_good A.inv hc hcx hu (es:=k.events.set n (KK.evend e0 k.now (KK.access k c x).1.1 (KK.access k c x).1.2)) (e:=KK.evend e0 k.now (KK.access k c x).1.1 (KK.access k c x).1.2) g4 g3 rfl rfl ?_
  ·refine L.effect g1 g5 hlate hn0 he h3 ?_ ?_
   ·rw [he];unfold fMa.good;rw [hev,juser,hu];exact ⟨fun _=>ag.1,fun h=>(by cases h)⟩
   ·rw [he];unfold fMa.jstep;rw [hev,juser,if_pos hu];exact ag.2
  ·rintro d y ⟨hy,hty⟩;obtain ⟨m,hm,ey,f1,f2,f3,f4,f5⟩:=A.ev.call d y hy;have hmn:m ≠ n:=by
    rintro rfl;rw [g1] at f1;cases f1;have:d = c:=by omega
    subst this;rw [hcx] at hy;cases hy;have T:=A.inv.teller ⟨hcx,hty⟩;have w:=sY A.inv.en.1 A.inv.en.2 T.k;have ht:=T.t;rw [us w.kind] at hu;unfold bE at hu;unfold Tk at ht;simp at hu;omega
   have hge:(k.events.set n (KK.evend e0 k.now (KK.access k c x).1.1 (KK.access k c x).1.2))[m]? = some ey:=by rw [getElem?_set,if_neg (fun h=>hmn h.symm)]; exact f1
   rw [hm];refine ⟨?_,?_,?_⟩
   ·unfold Hist.over;rw [Hist.mem_places];refine ⟨m,ey,hge,rfl,?_⟩;have:=(hlate m ey f1).1;show (decide (ey.fSa <= k.now) && (ey.fHa == 0 || decide (ey.fHa > k.now))) = true;rw [f5]; simp; omega
   ·rw [ev_get hge]; exact f4
   ·rw [ev_get hge]; exact f3
 ·rw [if_neg hu];have hu':bE (az x.fc).1 = false:=by simpa using hu
  split
  ·exact ⟨log,L.same rfl rfl⟩
  ·split
   ·exact ⟨log,L⟩
   ·split
    ·rename_i hdone;have he:=setev { k with p:=(PK.do_ k.p x.fGa x.fc).2 } (PK.do_ k.p x.fGa x.fc).1.1 jg rfl rfl;refine ⟨log++[(n:Int)],L.effect g1 g5 hlate hn0 he (do_s _ _ _) ?_ ?_⟩
     ·rw [he];unfold fMa.good;rw [hev,juser,hu'];refine ⟨fun h=>(by cases h),fun _=>?_⟩;show (PK.do_ k.p e0.fCa e0.fIa).1.2 = true/\(PK.do_ k.p e0.fCa e0.fIa).1.1 = (PK.do_ k.p x.fGa x.fc).1.1;rw [g3,g4];exact ⟨hdone,rfl⟩
     ·rw [he];unfold fMa.jstep;rw [hev,juser,if_neg hu];show (PK.do_ k.p e0.fCa e0.fIa).2 = (PK.do_ k.p x.fGa x.fc).2;rw [g3,g4]
    ·rename_i hdone;rw [do_wait (by simpa using hdone)];exact ⟨log,L⟩
theorem All.step {k:KK} (A:All k) (hn:k.now < 2 ^ 40) (c:Int):All (KK.step k c).2:=by
 refine ⟨A.toIE.step hn c,?_⟩;unfold KK.step;split
 ·exact A.lg
 ·rename_i hb;obtain ⟨hi,x,hx⟩:=busy_is (by simpa using hb);rw [hx];obtain ⟨n,rfl,_⟩:=kW hi;have h0:=A.inv.ok.n0;exact work_log (A.tick hn) (tick_late A.inv.ok A.ev hn) (by rw [tick_now A.inv.ok hn]; omega) hx hi
theorem All.right {k:KK} (A:All k):fMa.right k.events k.p.s = true/\fMa.linear k.events k.p.s = (-1,true)/\fMa.accesses k.events k.p.s = (-1,true):=by
 obtain ⟨log,L⟩:=A.lg;exact right_of A.ev L
end
section
open Go Mb
namespace KK
def lastE (c:Int):List bp->bp->bp
 | [],e=>e
 | x::es,e=>lastE c es (if x.fQa = c then x else e)
def uL (k:KK) (c:Int):bp:=lastE c k.events ⟨0,0,⟨0,0,0,0,0⟩,0,0,0,⟨0,0⟩,⟨0,0,0,0⟩⟩
end KK
end
section
open Go Mb
inductive Stp (k:KK) (c:Nat) (x:KC) (k':KK):Prop
 | wait (y:KC) (he:k'.events = k.events) (hp:k'.p = k.p) (hc:k'.calls = k.calls.set c (some y)) (h1:y.fc = x.fc) (h2:y.fGa = x.fGa) (h3:y.fat = x.fat)
 | user (m:Nat) (e0:bp) (h0:k.events[m]? = some e0) (hm:x.fat = (m:Nat)) (hz:e0.fHa = 0) (hcl:e0.fIa = x.fc) (hen:e0.fCa = x.fGa) (hco:e0.fQa = c) (hu:bE (az x.fc).1 = true)
   (he:k'.events = k.events.set m (KK.evend e0 (k.now + 1) (KK.access (KK.tick k) c x).1.1 (KK.access (KK.tick k) c x).1.2)) (hp:k'.p = (KK.access (KK.tick k) c x).2.p) (hc:k'.calls = k.calls.set c none)
 | does (m:Nat) (e0:bp) (h0:k.events[m]? = some e0) (hm:x.fat = (m:Nat)) (hz:e0.fHa = 0) (hcl:e0.fIa = x.fc) (hen:e0.fCa = x.fGa) (hco:e0.fQa = c) (hu:bE (az x.fc).1 = false)
   (he:k'.events = k.events.set m (KK.evend e0 (k.now + 1) (PK.do_ k.p x.fGa x.fc).1.1 jg)) (hp:k'.p = (PK.do_ k.p x.fGa x.fc).2) (hc:k'.calls = k.calls.set c none)
theorem set_some {α:Type} {l:List (Option α)} {c:Nat} {x:α} (h:l[c]? = some (some x)):l = l.set c (some x):=by
 refine List.ext_getElem? fun i=>?_;rw [getElem?_set];split
 ·rename_i e; subst e;rw [if_pos (List.getElem?_eq_some_iff.1 h).1,h]
 ·rfl
theorem step_stp {k:KK} (A:IE k) (hn:k.now < 2 ^ 40) {c:Nat} {x:KC} (hx:k.calls[c]? = some (some x)):Stp k c x (KK.step k c).2:=by
 have hc:=(List.getElem?_eq_some_iff.1 hx).1;obtain ⟨m,hm,e0,g1,g2,g3,g4,g5⟩:=A.ev.call c x hx;have hi:KK.is k c = true:=by unfold KK.is; exact decide_eq_true (by omega)
 have hcall:KK.call k c = some x:=by unfold KK.call; rw [toNat_natCast,getD_eq_getElem?_getD,hx]; rfl
 have hb:KK.busy k c = true:=by unfold KK.busy; rw [hi,hcall]; rfl
 have hnow:=tick_now A.inv.ok hn;have hst:(KK.step k c).2 = KK.work (KK.tick k) c x:=by
  unfold KK.step;rw [if_neg (by rw [hb]; simp),hcall]
 have hcn:((c:Int)).toNat = c:=toNat_natCast c;rw [hst];have setev:∀ (q:KK) (a:eQ) (l:jO),q.events = k.events->q.now = k.now + 1->(KK.ends q c x a l).events = k.events.set m (KK.evend e0 (k.now + 1) a l):=by
  intro q a l h1 h2;unfold KK.ends;rw [h1,h2,hm];simp only [toNat_natCast,getD_eq_getElem?_getD,g1,getD_some]
 unfold KK.work;by_cases hu:bE (az x.fc).1 = true
 ·rw [if_pos hu];obtain ⟨h1,h2,h3,h4,_⟩:=access_keep (KK.tick k) c x;refine .user m e0 g1 hm g5 g4 g3 g2 hu (setev _ _ _ h1 (by rw [h2,hnow])) rfl ?_;show (KK.access (KK.tick k) c x).2.calls.set (c:Int).toNat none = _;rw [h4,hcn]; rfl
 ·rw [if_neg hu];have hu':bE (az x.fc).1 = false:=by simpa using hu
  split
  ·refine .wait { x with fPa:=true,fAb:=(fLa.begin_ (KK.tick k).fFa c).1.1 } rfl rfl ?_ rfl rfl rfl;show (k.calls.set (c:Int).toNat _).set (c:Int).toNat _ = _;rw [hcn,List.set_set]; rfl
  ·split
   ·exact .wait x rfl rfl (set_some hx) rfl rfl rfl
   ·split
    ·refine .does m e0 g1 hm g5 g4 g3 g2 hu' (setev _ _ _ rfl hnow) rfl ?_;show k.calls.set (c:Int).toNat none = _;rw [hcn]
    ·rename_i hd;refine .wait x rfl ?_ (set_some hx) rfl rfl rfl;show (PK.do_ k.p x.fGa x.fc).2 = k.p;exact do_wait (by have h2:¬ (PK.do_ k.p x.fGa x.fc).1.2 = true:=hd; simpa using h2)
theorem step_not {k:KK} {c:Int} (h:KK.busy k c = false):(KK.step k c).2 = k:=by unfold KK.step; rw [if_pos h]
theorem step_or {k:KK} (A:IE k) (hn:k.now < 2 ^ 40) (c:Int):(KK.step k c).2 = k\/∃ (d:Nat) (x:KC),c = d/\k.calls[d]? = some (some x)/\Stp k d x (KK.step k c).2:=by
 cases hb:KK.busy k c with
 | false=>exact .inl (step_not hb)
 | true =>
  obtain ⟨hi,x,hx⟩:=busy_is hb;obtain ⟨n,rfl,_⟩:=kW hi;exact .inr ⟨n,x,rfl,qZ hx,step_stp A hn (qZ hx)⟩
theorem post_same (k:KK) (c:Int):(KK.post k c).2.events = k.events/\(KK.post k c).2.p = k.p/\(KK.post k c).2.calls = k.calls:=by
 unfold KK.post;split
 ·exact ⟨rfl,rfl,rfl⟩
 ·split <;> exact ⟨rfl,rfl,rfl⟩
theorem begin_or {k:KK} (A:IE k) (hn:k.now < 2 ^ 40) (core env:Int) (c:cK):((KK.begin_ k core env c).1 = false/\(KK.begin_ k core env c).2 = k) \/
  ((KK.begin_ k core env c).1 = true/\∃ d:Nat,core = d/\d < k.calls.length/\k.calls[d]? = some none/\0 <= env/\env < k.p.s.fJa/\(KK.begin_ k core env c).2.events = k.events++[KK.ev0 core env c (k.now + 1)]/\(KK.begin_ k core env c).2.p = k.p/\(KK.begin_ k core env c).2.calls = k.calls.set d (some ⟨k.events.length,env,c,false,0⟩)/\(KK.begin_ k core env c).2.fFa = k.fFa):=by
 have hw:=wrapN A.inv.ok.n0 hn;unfold KK.begin_;split
 ·exact .inl ⟨rfl,rfl⟩
 ·rename_i h;simp only [not_or,Bool.not_eq_true,Bool.not_eq_false] at h;obtain ⟨h1,h2,h3,h4⟩:=h;obtain ⟨d,rfl,hd⟩:=kW h1;refine .inr ⟨rfl,d,rfl,hd,?_,by omega,by omega,by rw [hw],rfl,by rw [toNat_natCast],rfl⟩;cases hc:k.calls[d]? with
  | none=>rw [List.getElem?_eq_none_iff] at hc; omega
  | some o =>
   cases o with
   | none=>rfl
   | some x =>
    have:KK.busy k d = true:=(busy_nat hd).2 ⟨x,hc⟩;rw [this] at h2; cases h2
theorem begin_does {k:KK} {c env:Int} {x:cK} (h1:KK.is k c = true) (h2:KK.busy k c = false) (h3:0 <= env) (h4:env < k.p.s.fJa):(KK.begin_ k c env x).1 = true:=by
 unfold KK.begin_;rw [if_neg];rintro (h | h | h | h)
 ·rw [h1] at h; cases h
 ·rw [h2] at h; cases h
 ·omega
 ·omega
theorem access_or {k:KK} (I:fA k) {c:Nat} (hc:c < k.calls.length) {x:KC} (hw:Word.check x.fc k.p.s.fJa = 0) (hkind:20 <= i64.wrap x.fc.e0/\i64.wrap x.fc.e0 <= 23) :
  ((KK.access k c x).1.1 = ⟨7,0⟩/\(KK.access k c x).2.p = k.p/\(KK.fBb k c x).1.2 = false) \/
  ∃ l:jO,Cov (PK.q k.p x.fGa (i64.wrap x.fc.e1)) l/\ct l.fBa (i64.wrap x.fc.e0) = true/\(KK.access k c x).1.1 = (PK.touch k.p (PK.q k.p x.fGa (i64.wrap x.fc.e1)).fEa x.fc).1.1/\(KK.access k c x).2.p = (PK.touch k.p (PK.q k.p x.fGa (i64.wrap x.fc.e1)).fEa x.fc).2:=by
 unfold KK.access;rw [if_neg (by rw [hw]; simp)];cases hf:(KK.fBb k c x).1.2 with
 | false=>exact .inl ⟨rfl,rfl,rfl⟩
 | true =>
  obtain ⟨h1,_,_,h4⟩:=walk_cov I hc hf hkind;rw [if_neg (by simp)];refine .inr ⟨_,h1,h4,?_,?_⟩
  ·show (PK.touch k.p (KK.fBb k c x).1.1.fEa x.fc).1.1 = _;rw [h1.f]
  ·show (PK.touch k.p (KK.fBb k c x).1.1.fEa x.fc).2 = _;rw [h1.f]
theorem step_ep {k:KK} (A:IE k) (hn:k.now < 2 ^ 40) (c:Int):(KK.step k c).2.fFa.1.length <= k.fFa.1.length + 1:=by
 cases hb:KK.busy k c with
 | false=>rw [step_not hb]; exact Nat.le_succ _
 | true =>
  obtain ⟨hi,x,hx⟩:=busy_is hb;obtain ⟨n,rfl,hl⟩:=kW hi;obtain ⟨S,_⟩:=step_stepped A.inv hl (qZ hx);obtain ⟨m,h1,h2⟩:=S.own;rw [h1,length_append]; omega
theorem begin_ep (k:KK) (core env:Int) (c:cK):(KK.begin_ k core env c).2.fFa = k.fFa:=by
 unfold KK.begin_;split <;> rfl
theorem post_ep (k:KK) (c:Int):(KK.post k c).2.fFa.1 = k.fFa.1:=by
 unfold KK.post;split
 ·rfl
 ·split
  ·rfl
  ·show (fLa.ack k.fFa c _).2.1 = _;unfold fLa.ack;split <;> rfl
theorem lines_len {k:KK} (A:fA k) {c:Nat} (hc:c < k.calls.length):(KK.lines k c).length = 8:=by
 unfold KK.lines;rw [if_pos (by unfold KK.is; exact decide_eq_true (by omega)),kbuf_nat];have:=(A.tok c hc).len;unfold Tlb.lines;simpa using this
theorem tick_p (k:KK):(KK.tick k).p = k.p:=rfl
structure Usr (fc:cK) (n:Int):Prop where
 chk:Word.check fc n = 0
 usr:bE (az fc).1 = true
 kind:20 <= i64.wrap fc.e0/\i64.wrap fc.e0 <= 23
 cw:Cw fc
 n9:fc.e0 ≠ 9
structure Lone (i:Nat) (core a:Int) (fc:cK) (p0:PK) (k:KK):Prop extends All k where
 pe:k.p = p0
 q0:(PK.q p0 a (i64.wrap fc.e1)).fBa = 0
 call:∀ (d:Nat) x,k.calls[d]? = some (some x)->x.fc = fc/\x.fGa = a
 len:k.events.length = i + 1
 le:∃ e,k.events[i]? = some e/\e.fQa = core/\(e.fHa ≠ 0->e.fYa = ⟨7,0⟩)
theorem Lone.post {i:Nat} {core a:Int} {fc:cK} {p0:PK} {k:KK} (L:Lone i core a fc p0 k) (hn:k.now < 2 ^ 40) (c:Int):Lone i core a fc p0 (KK.post k c).2:=by
 obtain ⟨h1,h2,h3⟩:=post_same k c;exact ⟨L.toAll.post hn c,by rw [h2]; exact L.pe,L.q0,by rw [h3]; exact L.call,by rw [h1]; exact L.len,by rw [h1]; exact L.le⟩
theorem iI {l:List (Option KC)} {c:Nat} {o:Option KC} {P:Nat->KC->Prop} (h:∀ (d:Nat) x,l[d]? = some (some x)->P d x) (ho:∀ x,o = some x->P c x):∀ (d:Nat) x,(l.set c o)[d]? = some (some x)->P d x:=by
 intro d x hd;rw [getElem?_set] at hd;split at hd
 ·rename_i e; subst e;split at hd
  ·simp only [Option.some.injEq] at hd;exact ho x hd
  ·cases hd
 ·exact h d x hd
theorem Lone.step {i:Nat} {core a:Int} {fc:cK} {p0:PK} {k:KK} (U:Usr fc p0.s.fJa) (L:Lone i core a fc p0 k) (hn:k.now < 2 ^ 40) (c:Int):Lone i core a fc p0 (KK.step k c).2:=by
 rcases step_or L.toIE hn c with h | ⟨d,x,rfl,hx,st⟩
 ·rw [h]; exact L
 have hA:=L.toAll.step hn d;obtain ⟨hc1,hc2⟩:=L.call d x hx;have hdl:=(List.getElem?_eq_some_iff.1 hx).1;cases st with
 | wait y he hp' hc h1 h2 h3 =>
  refine ⟨hA,by rw [hp']; exact L.pe,L.q0,?_,by rw [he]; exact L.len,by rw [he]; exact L.le⟩;rw [hc];refine iI (P:=fun _ x=>x.fc = fc/\x.fGa = a) L.call fun z hz=>?_;cases hz;exact ⟨by rw [h1]; exact hc1,by rw [h2]; exact hc2⟩
 | user m e0 h0 hm hz hcl hen hco hu he hp' hc =>
  have I:=L.inv.tick hn;have ac:=access_or I (c:=d) (by exact hdl) (x:=x) (by rw [hc1]; show Word.check fc k.p.s.fJa = 0; rw [L.pe]; exact U.chk) (by rw [hc1]; exact U.kind);have hans:(KK.access (KK.tick k) d x).1.1 = ⟨7,0⟩/\(KK.access (KK.tick k) d x).2.p = k.p:=by
   rcases ac with h | ⟨l,h1,_⟩
   ·exact ⟨h.1,h.2.1⟩
   ·rw [hc1,hc2] at h1;have h2:=h1.r;have h3:=L.q0;rw [tick_p,L.pe] at h2;omega
  refine ⟨hA,by rw [hp',hans.2]; exact L.pe,L.q0,?_,by rw [he,List.length_set]; exact L.len,?_⟩
  ·rw [hc];exact iI (P:=fun _ x=>x.fc = fc/\x.fGa = a) L.call fun z hz=>by cases hz
  ·obtain ⟨e,g1,g2,g3⟩:=L.le;rw [he];by_cases hmi:m = i
   ·subst hmi;rw [h0] at g1;cases g1;refine ⟨KK.evend e0 (k.now + 1) (KK.access (KK.tick k) d x).1.1 (KK.access (KK.tick k) d x).1.2,?_,g2,fun _=>hans.1⟩;rw [getElem?_set,if_pos rfl,if_pos (List.getElem?_eq_some_iff.1 h0).1]
   ·exact ⟨e,by rw [getElem?_set,if_neg hmi]; exact g1,g2,g3⟩
 | does m e0 h0 hm hz hcl hen hco hu he hp' hc =>
  rw [hc1,U.usr] at hu;cases hu
structure Rest (s:eR) (n:Int) (m:Nat) (k:KK):Prop extends All k where
 sz:k.p.s = s
 idle:∀ (d:Nat) x,k.calls[d]? ≠ some (some x)
 now:k.now <= n
 ep:k.fFa.1.length <= m
theorem lastA_at {core:Int} {es:List bp} {i:Nat} {e:bp} (hl:es.length = i + 1) (h:es[i]? = some e) (hc:e.fQa = core):KK.lastA core es es.length = (e.fYa,decide (e.fXa > 0)):=by
 rw [hl,KK.lastA,h];simp only [hc,if_true]
theorem run_closed {P:KK->Prop} (hP:Closed P) {s:eR} {n:Int} {m:Nat} {k:KK} (R:Rest s n m k) (hn:n < 2 ^ 33) (hm:m <= 4800) {c:Nat} (hc:c < k.calls.length) {a:Int} (ha:0 <= a/\a < s.fJa) {fc:cK} (h9:fc.e0 ≠ 9)
  (B:∀ q,q = (KK.begin_ k c a fc).2->q.events = k.events++[KK.ev0 c a fc (k.now + 1)]->q.p = k.p->q.calls = k.calls.set c (some ⟨k.events.length,a,fc,false,0⟩)->P q) :
  ∃ q,(KK.run k c a fc).2 = q/\P q/\(KK.run k c a fc).1 = KK.lastA c q.events q.events.length/\(∀ (d:Nat) x,q.calls[d]? ≠ some (some x))/\q.now <= n + 120100/\q.fFa.1.length <= m + 24/\q.calls.length = k.calls.length:=by
 have hnow:=R.now;have hep:=R.ep;have hb:=KK.begin_now R.inv.ok.n0 (by omega) c a fc;have hcl:=R.inv.ok.cl;have h88:=fV.1 R.inv.ok.p.sz;have h1:KK.is k c = true:=by unfold KK.is; exact decide_eq_true (by omega)
 have h2:KK.busy k c = false:=by
  cases hb:KK.busy k c with
  | false=>rfl
  | true=>obtain ⟨x,hx⟩:=(busy_nat hc).1 hb; exact absurd hx (R.idle c x)
 have hdo:=begin_does h1 h2 ha.1 (by rw [R.sz]; exact ha.2) (x:=fc);rcases begin_or R.toIE (by omega) c a fc with ⟨h,_⟩ | ⟨_,d,hd,hdl,hno,_,_,he,hp,hcs,hepo⟩
 ·rw [hdo] at h; cases h
 have hdc:d = c:=by omega
 subst hdc;have A:=B _ rfl he hp hcs;have hcl2:(KK.begin_ k d a fc).2.calls.length = k.calls.length:=by rw [hcs,List.length_set]
 have S:=uc (m:=997) hP (cores:=8) A (by rw [hcl2]; omega) (Nat.le_refl _) (by rw [hepo]; omega) (by omega) (by
  rw [hcs];exact iI (P:=fun _ x=>x.fc.e0 ≠ 9) (fun d x h=>absurd h (R.idle d x)) fun x hx=>by cases hx; exact h9)
 rw [show (997 + 3:Nat) = 1000 from rfl] at S;obtain ⟨S1,S2⟩:=S;have hrun:KK.run k d a fc = (KK.lastA d (KK.settle 8 1000 (KK.begin_ k d a fc).2).2.events (KK.settle 8 1000 (KK.begin_ k d a fc).2).2.events.length,(KK.settle 8 1000 (KK.begin_ k d a fc).2).2):=by
  unfold KK.run;rw [if_neg (by rw [hdo]; simp),if_neg (by rw [S1]; simp)]
 refine ⟨(KK.settle 8 1000 (KK.begin_ k d a fc).2).2,by rw [hrun],S2.all,by rw [hrun],S2.idle,?_,?_,?_⟩
 ·have:=S2.now; omega
 ·have:=S2.own; rw [hepo] at this; omega
 ·rw [S2.len,hcl2]
end
section
open Go Mb
theorem does_user {k:PK} {e:Int} {c:cK} (w:Well k.s.fJa c) (h:20 <= c.e0):PK.does k e c = (((PK.user k e c).1,true),(PK.user k e c).2):=by
 unfold PK.does;rw [PK.w0 w];rw [if_neg (by omega),if_neg (by omega),if_neg (by omega),if_neg (by omega),if_neg (by omega),if_neg (by omega),if_neg (by omega),if_neg (by omega),if_neg (by omega),if_neg (by omega)]
structure One (E:List bp) (core a:Int) (fc:cK) (p0:PK) (k:KK):Prop extends All k where
 one:∃ e,k.events = E++[e]/\e.fQa = core/\e.fCa = a/\e.fIa = fc/\((e.fHa = 0/\k.p = p0)\/(e.fHa ≠ 0/\e.fYa = (PK.do_ p0 a fc).1.1/\k.p = (PK.do_ p0 a fc).2))
 call:∀ (d:Nat) x,k.calls[d]? = some (some x)->x.fc = fc/\x.fGa = a/\x.fat = E.length
theorem One.post {E:List bp} {core a:Int} {fc:cK} {p0:PK} {k:KK} (H:One E core a fc p0 k) (hn:k.now < 2 ^ 40) (c:Int):One E core a fc p0 (KK.post k c).2:=by
 obtain ⟨h1,h2,h3⟩:=post_same k c;exact ⟨H.toAll.post hn c,by rw [h1,h2]; exact H.one,by rw [h3]; exact H.call⟩
theorem last_get {E:List bp} {e e0:bp} (h:(E++[e])[E.length]? = some e0):e = e0:=by
 rw [List.getElem?_append_right (Nat.le_refl _)] at h;simpa using h
theorem last_set {E:List bp} {e e1:bp}:(E++[e]).set E.length e1 = E++[e1]:=by simp
theorem access_do {k:KK} (I:fA k) {c:Nat} (hc:c < k.calls.length) {x:KC} (hoff:PK.off k.p x.fGa = false) (cw:Cw x.fc) (hu:bE (az x.fc).1 = true) (hnt:∀ d y,Tells k d y->y.fc = x.fc):(KK.access k c x).1.1 = (PK.do_ k.p x.fGa x.fc).1.1/\(KK.access k c x).2.p = (PK.do_ k.p x.fGa x.fc).2:=by
 by_cases hw:Word.check x.fc k.p.s.fJa = 0
 ·have w:=sY I.en.1 I.en.2 hw;have hk:20 <= x.fc.e0/\x.fc.e0 <= 23:=by
   rw [us w.kind] at hu;unfold bE at hu;simpa using hu
  have hk2:20 <= i64.wrap x.fc.e0/\i64.wrap x.fc.e0 <= 23:=by rw [PK.w0 w]; exact hk
  rw [PK.do_good hoff hw,does_user w hk.1];have hq:=PK.q_get hoff (i64.wrap x.fc.e1);have hs:=Table.get_snd (PK.tab k.p x.fGa) (i64.wrap x.fc.e1);rw [← hq] at hs;unfold PK.user;rw [← hq,hs];rcases access_or I hc hw hk2 with ⟨h1,h2,h3⟩ | ⟨l,h1,h2,h3,h4⟩
  ·have hl:ct (PK.q k.p x.fGa (i64.wrap x.fc.e1)).fBa (i64.wrap x.fc.e0) = false:=by
    rcases walk_fault I h3 hk2 with h | ⟨d,y,hy,_⟩
    ·exact h
    ·have T:=(I.teller hy).t;rw [hnt d y hy] at T;unfold Tk at T;omega
   rw [if_pos (.inr hl)];exact ⟨h1,h2⟩
  ·have hr:=h1.r;have hl:ct (PK.q k.p x.fGa (i64.wrap x.fc.e1)).fBa (i64.wrap x.fc.e0) = true:=by
    rw [lets_need hk2] at h2 ⊢;exact within_trans h2 h1.w
   rw [if_neg]
   ·exact ⟨h3,h4⟩
   ·rintro (h | h)
    ·have:=of_decide_eq_false h;omega
    ·rw [hl] at h; cases h
 ·obtain ⟨b1,_,b3⟩:=PK.do_bad (k:=k.p) (e:=x.fGa) (.inr hw);rw [b1,b3,hoff];unfold KK.access;rw [if_pos hw];exact ⟨rfl,rfl⟩
theorem One.step {E:List bp} {core a:Int} {fc:cK} {p0:PK} {k:KK} (cw:Cw fc) (hoff:PK.off p0 a = false) (H:One E core a fc p0 k) (hn:k.now < 2 ^ 40) (c:Int):One E core a fc p0 (KK.step k c).2:=by
 rcases step_or H.toIE hn c with h | ⟨d,x,rfl,hx,st⟩
 ·rw [h]; exact H
 have hA:=H.toAll.step hn d;obtain ⟨c1,c2,c3⟩:=H.call d x hx;have hdl:=(List.getElem?_eq_some_iff.1 hx).1;obtain ⟨e,g1,g2,g3,g4,g5⟩:=H.one;have hpos:k.now + 1 ≠ 0:=by have:=H.inv.ok.n0; omega
 cases st with
 | wait y he hp hc h1 h2 h3 =>
  refine ⟨hA,by rw [he,hp]; exact ⟨e,g1,g2,g3,g4,g5⟩,?_⟩;rw [hc];exact iI (P:=fun _ x=>x.fc = fc/\x.fGa = a/\x.fat = E.length) H.call fun z hz=>by
   cases hz;rw [h1,h2,h3]; exact ⟨c1,c2,c3⟩
 | user m e0 h0 hm hz hcl hen hco hu he hp hc =>
  have hmE:m = E.length:=by omega
  rw [g1,hmE] at h0;have hee:=last_get h0;rw [hee] at g2 g3 g4 g5;have hp0:k.p = p0:=by
   rcases g5 with g | g
   ·exact g.2
   ·exact absurd hz g.1
  have ac:=access_do (H.inv.tick hn) (c:=d) hdl (x:=x) (by rw [c2]; show PK.off k.p a = false; rw [hp0]; exact hoff) (by rw [c1]; exact cw) hu (fun d' y hy=>by rw [(H.call d' y hy.1).1,c1]);rw [c1,c2] at ac;have ac1:(KK.access (KK.tick k) d x).1.1 = (PK.do_ p0 a fc).1.1:=by rw [← hp0]; exact ac.1
  have ac2:(KK.access (KK.tick k) d x).2.p = (PK.do_ p0 a fc).2:=by rw [← hp0]; exact ac.2
  refine ⟨hA,⟨KK.evend e0 (k.now + 1) (KK.access (KK.tick k) d x).1.1 (KK.access (KK.tick k) d x).1.2,by rw [he,g1,hmE,last_set],g2,g3,g4,.inr ⟨hpos,ac1,by rw [hp]; exact ac2⟩⟩,?_⟩;rw [hc];exact iI (P:=fun _ x=>x.fc = fc/\x.fGa = a/\x.fat = E.length) H.call fun z hz=>by cases hz
 | does m e0 h0 hm hz hcl hen hco hu he hp hc =>
  have hmE:m = E.length:=by omega
  rw [g1,hmE] at h0;have hee:=last_get h0;rw [hee] at g2 g3 g4 g5;have hp0:k.p = p0:=by
   rcases g5 with g | g
   ·exact g.2
   ·exact absurd hz g.1
  rw [c1,c2,hp0] at he hp;refine ⟨hA,⟨KK.evend e0 (k.now + 1) (PK.do_ p0 a fc).1.1 jg,by rw [he,g1,hmE,last_set],g2,g3,g4,.inr ⟨hpos,rfl,hp⟩⟩,?_⟩;rw [hc];exact iI (P:=fun _ x=>x.fc = fc/\x.fGa = a/\x.fat = E.length) H.call fun z hz=>by cases hz
theorem one_closed {E:List bp} {core a:Int} {fc:cK} {p0:PK} (cw:Cw fc) (hoff:PK.off p0 a = false):Closed (One E core a fc p0):=⟨fun A=>A.inv,fun A hn c=>A.post hn c,fun A hn c=>A.step cw hoff hn c⟩
theorem run_do {s:eR} {n:Int} {m:Nat} {k:KK} (R:Rest s n m k) (hn:n < 2 ^ 33) (hm:m <= 4800) {c:Nat} (hc:c < k.calls.length) {a:Int} (ha:0 <= a/\a < s.fJa) {fc:cK} (cw:Cw fc) (h9:fc.e0 ≠ 9) :
  ∃ q,(KK.run k c a fc).2 = q/\(KK.run k c a fc).1 = ((PK.do_ k.p a fc).1.1,true)/\q.p = (PK.do_ k.p a fc).2/\Rest s (n + 120100) (m + 24) q/\q.calls.length = k.calls.length/\∃ e,q.events = k.events++[e]/\e.fCa = a/\e.fIa = fc/\e.fYa = (PK.do_ k.p a fc).1.1:=by
 have hnow:=R.now;have hoff:PK.off k.p a = false:=PK.off_iff.2 (by rw [R.sz]; exact ha);obtain ⟨q,h1,L,h2,h3,h4,h5,h6⟩:=run_closed (one_closed (E:=k.events) (core:=c) (a:=a) (p0:=k.p) cw hoff) R hn hm hc ha h9 (fun q hq he hp hcs=>by
  refine ⟨by rw [hq]; exact R.toAll.begin (by omega) c a cw,⟨_,he,rfl,rfl,rfl,.inl ⟨rfl,hp⟩⟩,?_⟩;rw [hcs];exact iI (P:=fun _ x=>x.fc = fc/\x.fGa = a/\x.fat = k.events.length) (fun d x h=>absurd h (R.idle d x)) fun x hx=>by cases hx; exact ⟨rfl,rfl,rfl⟩)
 obtain ⟨e,g1,g2,g3,g4,g5⟩:=L.one;have hlen:q.events.length = k.events.length + 1:=by rw [g1,length_append]; rfl
 have hget:q.events[k.events.length]? = some e:=by rw [g1,List.getElem?_append_right (Nat.le_refl _)]; simp
 have hen:=L.toIE.ended h3 e (List.mem_of_getElem? hget);have hpos:e.fXa > 0:=by
  have:=L.toAll.ev.one _ _ hget;rcases this.st with s | s
  ·exact absurd s.2 hen.1
  ·have:=this.b0; omega
 obtain ⟨_,ga,gp⟩:=g5.resolve_left (fun h=>hen.2 h.1);refine ⟨q,h1,?_,gp,⟨L.toAll,?_,h3,h4,h5⟩,h6,e,g1,g3,g4,ga⟩
 ·rw [h2,lastA_at hlen hget g2,ga,decide_eq_true hpos]
 ·rw [gp,do_s]; exact R.sz
end
section
open Go Mb
theorem all_close:Closed All:=⟨fun A=>A.inv,fun A hn c=>A.post hn c,fun A hn c=>A.step hn c⟩
structure Calm (i:Nat) (k:KK):Prop extends All k where
 idle:∀ (d:Nat) x,k.calls[d]? ≠ some (some x)
 now:k.now <= i * 120100
 ep:k.fFa.1.length <= 24 * i
theorem calm_new {s:eR} (h:PK.sized s = true):Calm 0 (KK.new s):=⟨all_new h,fun d x e=>absurd e (tk s d x),le_refl _,Nat.le_refl _⟩
theorem Calm.run {i:Nat} {k:KK} (C:Calm i k) (hi:i <= 100) (core env:Int) {c:cK} (cw:Cw c) (h9:c.e0 ≠ 9):Calm (i + 1) (KK.run k core env c).2:=by
 have hnow:=C.now;have hep:=C.ep;have hii:(i:Int) * 120100 <= 100 * 120100:=by omega
 have B:=C.toAll.begin (by omega) core env cw;have hb:=KK.begin_now C.inv.ok.n0 (by omega) core env c;have h8:=B.inv.ok.cl;have h88:=fV.1 B.inv.ok.p.sz;have he:(KK.begin_ k core env c).2.fFa = k.fFa/\(∀ (d:Nat) x,(KK.begin_ k core env c).2.calls[d]? = some (some x)->x.fc.e0 ≠ 9)/\((KK.begin_ k core env c).1 = false->(KK.begin_ k core env c).2 = k):=by
  unfold KK.begin_;split
  ·exact ⟨rfl,fun d x h=>absurd h (C.idle d x),fun _=>rfl⟩
  ·refine ⟨rfl,fun d x h=>?_,fun h=>by cases h⟩;have h':(k.calls.set core.toNat (some ⟨k.events.length,env,c,false,0⟩))[d]? = some (some x):=h;rw [getElem?_set] at h';split at h'
   ·split at h'
    ·simp only [Option.some.injEq] at h';rw [← h']; exact h9
    ·cases h'
   ·exact absurd h' (C.idle d x)
 have S:=uc (m:=997) all_close (cores:=8) B (by omega) (Nat.le_refl _) (by rw [he.1]; omega) (by omega) he.2.1;have S:=S.2;rw [show (997 + 3:Nat) = 1000 from rfl] at S;have D:Calm (i + 1) (KK.settle 8 1000 (KK.begin_ k core env c).2).2:=by
  have h1:=S.now;have h2:=S.own;rw [he.1] at h2;exact ⟨S.all,S.idle,by omega,by omega⟩
 unfold KK.run;split
 ·rename_i hf
  dsimp only
  rw [he.2.2 hf];exact ⟨C.toAll,C.idle,by omega,by omega⟩
 ·split
  ·dsimp only; exact D
  ·dsimp only; exact D
end
section
open Go Mb
section pure
variable {key:Int->Int}
theorem up_ins {a1 a2:List Int} {y:Int} (h:Up key (a1++a2)) (h1:∀ x ∈ a1,key x <= key y) (h2:∀ x ∈ a2,key y <= key x):Up key (a1++y::a2):=by
 obtain ⟨p1,p2,p3⟩:=pairwise_append.1 h;refine pairwise_append.2 ⟨p1,List.pairwise_cons.2 ⟨h2,p2⟩,fun x hx z hz=>?_⟩;rcases mem_cons.1 hz with rfl | hz
 ·exact h1 x hx
 ·exact p3 x hx z hz
theorem up_join {u1 u2 v1 v2 w1 w2:List Int} (hu:Up key (u1++u2)) (hv:Up key (v1++v2)) (h12:∀ x ∈ u1,∀ y ∈ v2,key x <= key y) (h21:∀ x ∈ v1,∀ y ∈ u2,key x <= key y) (p1:w1.Perm (u1++v1)) (p2:w2.Perm (u2++v2)) (s1:Up key w1) (s2:Up key w2):Up key (w1++w2):=by
 refine pairwise_append.2 ⟨s1,s2,fun x hx y hy=>?_⟩;rcases mem_append.1 (p1.subset hx) with hx | hx <;> rcases mem_append.1 (p2.subset hy) with hy | hy
 ·exact (pairwise_append.1 hu).2.2 x hx y hy
 ·exact h12 x hx y hy
 ·exact h21 x hx y hy
 ·exact (pairwise_append.1 hv).2.2 x hx y hy
theorem perm_join {u1 u2 v1 v2 w1 w2:List Int} (p1:w1.Perm (u1++v1)) (p2:w2.Perm (u2++v2)):(w1++w2).Perm ((u1++u2)++(v1++v2)):=by
 refine (p1.append p2).trans ?_;have:((u1++v1)++(u2++v2)) = u1++((v1++u2)++v2):=by simp
 rw [this];have:((u1++u2)++(v1++v2)) = u1++((u2++v1)++v2):=by simp
 rw [this];exact ((List.perm_append_comm).append_right v2).append_left u1
theorem up_take {l:List Int} (h:Up key l) {i:Nat} {z x:Int} (hz:l[i]? = some z) (hx:x ∈ l.take (i + 1)):key x <= key z:=by
 obtain ⟨hi,rfl⟩:=List.getElem?_eq_some_iff.1 hz;obtain ⟨j,hj,rfl⟩:=List.getElem_of_mem hx;rw [length_take] at hj;rw [List.getElem_take];rcases lt_or_ge j i with h1 | h1
 ·exact List.pairwise_iff_getElem.1 h j i (by omega) hi h1
 ·have:j = i:=by omega
  subst this; exact le_refl _
theorem up_drop {l:List Int} (h:Up key l) {i:Nat} {z x:Int} (hz:l[i]? = some z) (hx:x ∈ l.drop i):key z <= key x:=by
 obtain ⟨hi,rfl⟩:=List.getElem?_eq_some_iff.1 hz;obtain ⟨j,hj,rfl⟩:=List.getElem_of_mem hx;rw [length_drop] at hj;rw [List.getElem_drop];rcases Nat.eq_zero_or_pos j with h1 | h1
 ·subst h1; exact le_refl _
 ·exact List.pairwise_iff_getElem.1 h i (i + j) hi (by omega) (by omega)
end pure
def hf (x y:Int):Int:=i64.wrap (Int.fdiv (u64.wrap (i64.wrap (x + y))) (2 ^ (min (Int.toNat 1) (IntKind.bits .u64))))
section
variable (s:Sl) (f:Value) (A:List As)
theorem sp_swapRange (x u y v z:List Int) (hl:u.length = v.length) (hb:x.length + u.length + y.length + v.length + z.length < 2 ^ 60) :
  Sp prog dp [sv s,.int .i64 x.length,.int .i64 (x.length + u.length + y.length:Nat),.int .i64 u.length,f] R_ (vI s (x++(u++(y++(v++z))))::A) (fun _ h=>aB (vI s (x++(v++(y++(u++z))))::A) h):=by
 intro h s0;refine qi _ _ _ _ _ ?_;unfold jY;refine Lp.intro (fun (i:Int) h=>∃ u1 u2 v1 v2:List Int,u1++u2 = u/\v1++v2 = v/\u1.length = v1.length/\i = ((u1.length:Nat):Int)/\aB (vI s (x++((v1++u2)++(y++((u1++v2)++z))))::A) h) (fun (i:Int) _=>u.length - i.toNat) ⟨[],u,[],v,rfl,rfl,rfl,rfl,s0⟩ ?_;rintro i h1 ⟨u1,u2,v1,v2,rfl,rfl,h11,rfl,s1⟩;simp only [length_append] at hl hb ⊢;unfold gm;refine aY (fun k=>?_) (fun k=>?_)
 ·have hlt:0 < u2.length:=by have:=of_decide_eq_true k; omega
  obtain ⟨a,u2,rfl⟩:=List.exists_cons_of_length_pos hlt;have hlv:0 < v2.length:=by simp at hl; omega
  obtain ⟨b,v2,rfl⟩:=List.exists_cons_of_length_pos hlv;simp only [List.length_cons] at hl hb ⊢;have w1:i64.wrap (((x.length + (u1.length + (u2.length + 1)) + y.length:Nat):Int) + ((u1.length:Nat):Int)) = ((x.length + (u1.length + (u2.length + 1)) + y.length + u1.length:Nat):Int):=by rw [bm (by omega) (by omega)]; omega
  have w2:i64.wrap (((x.length:Nat):Int) + ((u1.length:Nat):Int)) = ((x.length + u1.length:Nat):Int):=by rw [bm (by omega) (by omega)]; omega
  have w3:i64.wrap (((u1.length:Nat):Int) + 1) = ((u1.length + 1:Nat):Int):=by rw [bm (by omega) (by omega)]; omega
  rw [w1,w2,w3];have d1:x++((v1++a::u2)++(y++((u1++b::v2)++z))) = (x++v1)++a::(u2++(y++((u1++b::v2)++z))):=by simp
  have d2:(x++v1)++a::(u2++(y++((u1++b::v2)++z))) = (x++v1++a::u2++y++u1)++b::(v2++z):=by simp
  have d3:(x++v1)++b::(u2++(y++((u1++b::v2)++z))) = (x++v1++b::u2++y++u1)++b::(v2++z):=by simp
  have i1:x.length + u1.length = (x++v1).length:=by simp; omega
  have i2:x.length + (u1.length + (u2.length + 1)) + y.length + u1.length = (x++v1++a::u2++y++u1).length:=by simp; omega
  have i3:(x++v1++a::u2++y++u1).length = (x++v1++b::u2++y++u1).length:=by simp
  rw [d1] at s1;have g1:((x++v1)++a::(u2++(y++((u1++b::v2)++z))))[x.length + u1.length]? = some a:=by rw [i1]; exact pV
  have g2:((x++v1)++a::(u2++(y++((u1++b::v2)++z))))[x.length + (u1.length + (u2.length + 1)) + y.length + u1.length]? = some b:=by rw [d2,i2]; exact pV
  have g1l:=(List.getElem?_eq_some_iff.1 g1).1;have g2l:=(List.getElem?_eq_some_iff.1 g2).1;refine dk s1 (j:=0) rfl (by omega) (by omega) fun q1 hq1=>?_;refine dk s1 (j:=0) rfl (by omega) (by omega) fun q2 hq2=>?_;refine dD (j:=0) (i:=x.length + (u1.length + (u2.length + 1)) + y.length + u1.length) (k:=0) b (ck _) s1 rfl hq1 (by rw [toNat_natCast]; rfl) g2 (by simp) ?_;refine dD (j:=0) (i:=x.length + u1.length) (k:=0) a (ck _) s1 rfl hq2 (by rw [toNat_natCast]; rfl) g1 (by simp) ?_;refine uJ (j:=0) (i:=x.length + u1.length) (k:=0) b (ck _) s1 rfl hq2 (by rw [toNat_natCast]; rfl) g1 (by simp) rfl fun h6 s6=>?_;rw [i1,mid_set,d3] at s6;have g3:((x++v1++b::u2++y++u1)++b::(v2++z))[x.length + (u1.length + (u2.length + 1)) + y.length + u1.length]? = some b:=by rw [i2,i3]; exact pV
  refine uJ (j:=0) (i:=x.length + (u1.length + (u2.length + 1)) + y.length + u1.length) (k:=0) a (ck _) s6 rfl hq1 (by rw [toNat_natCast]; rfl) g3 (by simp) rfl fun h7 s7=>?_;have s7:aB (vI s (((x++v1++b::u2++y++u1)++b::(v2++z)).set (x.length + (u1.length + (u2.length + 1)) + y.length + u1.length) a)::A) h7:=s7;rw [i2,i3,mid_set] at s7;refine ⟨⟨u1++[a],u2,v1++[b],v2,by simp,by simp,by simp; omega,by simp,?_⟩,by simp; omega⟩;have d4:(x++v1++b::u2++y++u1)++a::(v2++z) = x++((v1++[b]++u2)++(y++((u1++[a]++v2)++z))):=by simp
  rw [d4] at s7; exact s7
 ·have e2:u2 = []:=by
   have:=of_decide_eq_false k;exact List.eq_nil_of_length_eq_zero (by omega)
  subst e2;have e3:v2 = []:=List.eq_nil_of_length_eq_zero (by simp at hl; omega);subst e3;have d:x++((v1++[])++(y++((u1++[])++z))) = x++((v1++[])++(y++((u1++[])++z))):=rfl;exact s1
theorem sp_rotate (x u v z:List Int) (hu:u ≠ []) (hv:v ≠ []) (hb:x.length + u.length + v.length + z.length < 2 ^ 59) :
  Sp prog dI [sv s,.int .i64 x.length,.int .i64 (x.length + u.length:Nat),.int .i64 (x.length + u.length + v.length:Nat),f] R_ (vI s (x++(u++(v++z)))::A) (fun _ h=>aB (vI s (x++(v++(u++z)))::A) h):=by
 intro h s0;refine rZ _ _ _ _ _ ?_;unfold lM;have w1:i64.wrap (((x.length + u.length:Nat):Int) - ((x.length:Nat):Int)) = ((u.length:Nat):Int):=by rw [bm (by omega) (by omega)]; omega
 have w2:i64.wrap (((x.length + u.length + v.length:Nat):Int) - ((x.length + u.length:Nat):Int)) = ((v.length:Nat):Int):=by rw [bm (by omega) (by omega)]; omega
 rw [w1,w2];have swp:∀ (X U Y V Z:List Int) (a b c:Int) (h':Hp) (K:Unit->Hp->Prop),U.length = V.length->X.length + U.length + Y.length + V.length + Z.length < 2 ^ 60->a = ((X.length:Nat):Int)->b = ((X.length + U.length + Y.length:Nat):Int)->c = ((U.length:Nat):Int)->aB (vI s (X++(U++(Y++(V++Z))))::A) h' ->
   (∀ h',aB (vI s (X++(V++(Y++(U++Z))))::A) h'->K () h')->cl prog dp [sv s,.int .i64 a,.int .i64 b,.int .i64 c,f] R_ K h':=by
  rintro X U Y V Z a b c h' K h1 h2 rfl rfl rfl s1 k;refine (sp_swapRange s f A X U Y V Z h1 h2 h' s1).mono ?_;rintro w h'' ⟨r,e,s2⟩;exact ⟨r,e,k h'' s2⟩
 refine Lp.intro (fun (t:Int × Int) h=>∃ X U V Z:List Int,t = (((U.length:Nat):Int),((V.length:Nat):Int))/\U ≠ []/\V ≠ []/\X.length + U.length = x.length + u.length/\X++(V++(U++Z)) = x++(v++(u++z))/\aB (vI s (X++(U++(V++Z)))::A) h) (fun (t:Int × Int) _=>t.1.toNat + t.2.toNat) ⟨x,u,v,z,rfl,hu,hv,rfl,rfl,s0⟩ ?_;rintro t h1 ⟨X,U,V,Z,rfl,hU,hV,hm,ht,s1⟩;have hlen:=congrArg List.length ht;simp only [length_append] at hlen;have hup:=List.length_pos_iff.2 hU;have hvp:=List.length_pos_iff.2 hV;unfold im;simp only;have w3:i64.wrap (((x.length + u.length:Nat):Int) - ((U.length:Nat):Int)) = ((X.length:Nat):Int):=by rw [bm (by omega) (by omega)]; omega
 rw [w3];refine aY (fun k1=>?_) (fun k1=>?_)
 ·refine aY (fun k2=>?_) (fun k2=>?_)
  ·have hgt:V.length < U.length:=by have:=of_decide_eq_true k2; omega
   have hs:U = U.take V.length++U.drop V.length:=(List.take_append_drop _ _).symm;have l1:(U.take V.length).length = V.length:=by rw [length_take]; omega
   have l2:(U.drop V.length).length = U.length - V.length:=length_drop;generalize U.take V.length = U1 at hs l1;generalize U.drop V.length = U2 at hs l2;subst hs;have hUl:(U1++U2).length = U1.length + U2.length:=length_append;refine swp X U1 U2 V Z _ _ _ _ _ l1 (by simp at hm; omega) rfl (by simp at hm; omega) (by omega) (by simpa using s1) fun h2 s2=>?_;have w4:i64.wrap ((((U1++U2).length:Nat):Int) - ((V.length:Nat):Int)) = ((U2.length:Nat):Int):=by rw [bm (by simp; omega) (by simp; omega)]; simp; omega
   rw [w4];refine ⟨⟨X++V,U2,U1,Z,by rw [l1],?_,?_,by rw [length_append]; omega,by rw [← ht]; simp,by simpa using s2⟩,by simp; omega⟩
   ·intro e; have:=congrArg List.length e; simp only [List.length_nil] at this; omega
   ·intro e; rw [e] at l1; simp at l1; omega
  ·have hgt:U.length < V.length:=by
    have a1:=of_decide_eq_false k2;have a2:((U.length:Nat):Int) ≠ ((V.length:Nat):Int):=by simpa using k1
    omega
   have hs:V = V.take (V.length - U.length)++V.drop (V.length - U.length):=(List.take_append_drop _ _).symm;have l1:(V.take (V.length - U.length)).length = V.length - U.length:=by rw [length_take]; omega
   have l2:(V.drop (V.length - U.length)).length = U.length:=by rw [length_drop]; omega
   have w5:i64.wrap ((i64.wrap (((x.length + u.length:Nat):Int) + ((V.length:Nat):Int))) - ((U.length:Nat):Int)) = ((x.length + u.length + V.length - U.length:Nat):Int):=by rw [bm (n:=((x.length + u.length:Nat):Int) + ((V.length:Nat):Int)) (by omega) (by omega),bm (by omega) (by omega)]; omega
   have w6:i64.wrap (((V.length:Nat):Int) - ((U.length:Nat):Int)) = ((V.length - U.length:Nat):Int):=by rw [bm (by omega) (by omega)]; omega
   rw [w5,w6];generalize V.take (V.length - U.length) = V1 at hs l1;generalize V.drop (V.length - U.length) = V2 at hs l2;have hVl:V.length = V1.length + V2.length:=by rw [hs,length_append]
   rw [hs] at s1 ht;refine swp X U V1 V2 Z _ _ _ _ _ l2.symm (by omega) rfl (by omega) rfl (by simpa using s1) fun h2 s2=>?_;refine ⟨⟨X,V2,V1,U++Z,by rw [l2,← l1],?_,?_,by omega,by rw [← ht]; simp,by simpa using s2⟩,by simp; omega⟩
   ·intro e; rw [e] at l2; simp at l2; omega
   ·intro e; rw [e] at l1; simp at l1; omega
 ·have he:U.length = V.length:=by
   have:((U.length:Nat):Int) = ((V.length:Nat):Int):=by simpa using k1
   omega
  refine swp X U [] V Z _ _ _ _ _ he (by simp; omega) rfl (by simp; omega) rfl (by simpa using s1) fun h2 s2=>?_;rw [← ht];simpa using s2
end
end
end Go.Proofs.YtochchocdckegaaGreatDoor
