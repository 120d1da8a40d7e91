/- Part of the proof of: The law RaceAdd returns true for every input, and leaves its arguments as they were. -/
import Derived.Test.YtemoifebbhoinaaGreatDoorRaceAdd13
set_option linter.all false
set_option maxRecDepth 20000
namespace Go.Proofs.YtemoifebbhoinaaGreatDoor
open Go.Proofs.Tryz
open Go.IntKind (i64 u64)
open _root_.Int (le_refl le_trans toNat_natCast)
open _root_.List (getD_eq_getElem?_getD getElem?_set length_append replicate)
open _root_.Nat (lt_or_ge zero_le)
open _root_.Option (getD_some)
section
open Go Mb
theorem do_done {k:PK} {e:Int} {c:cN} (cw:Cw c) (h9:c.e0 ≠ 9) (hn:1 <= k.s.fIa/\k.s.fIa <= 4):(PK.do_ k e c).1.2 = true:=by
 by_cases hb:PK.off k e = true\/Word.check c k.s.fIa ≠ 0
 ·exact (PK.do_bad hb).2.1
 ·simp only [not_or,Bool.not_eq_true,Decidable.not_not] at hb
  have w:=tM hn.1 hn.2 hb.2
  rw [PK.do_good hb.1 hb.2]
  unfold PK.does PK.errs
  rw [PK.w0 w]
  repeat' split
  all_goals first | rfl | (exfalso; omega)
theorem waitsFrom_none {n o:Int}:∀ {l:List Int} {i:Int},(∀ (j:Nat) (a:Int),l[j]? = some a->o ≠ i + j->n <= a)->fMa.fJb n o l i = []
 | [],_,_=>rfl
 | b::l,i,h=>by
  rw [fMa.fJb,if_neg]
  ·exact waitsFrom_none fun j a hj ho=>h (j + 1) a (by simpa using hj) (by omega)
  ·rintro ⟨h1,h2⟩
   have:=h 0 b rfl (by simpa using h2)
   omega
theorem done_of {k:KK} {n:Int} {d:Nat} (h1:1 <= n) (h2:n <= k.fFa.1.length) (ho:k.fFa.1[(n - 1).toNat]? = some (d:Int)) (h:∀ c,c < k.fFa.2.length->c ≠ d->n <= fSa k c):fMa.done k.fFa n = true:=by
 unfold fMa.done
 simp only [Bool.and_eq_true,decide_eq_true_eq]
 refine ⟨⟨h1,h2⟩,?_⟩
 unfold fMa.waits
 rw [if_neg (by unfold fMa.now; omega)]
 have hov:k.fFa.1.getD (n - 1).toNat 0 = d:=by rw [getD_eq_getElem?_getD,ho]; rfl
 rw [hov]
 refine waitsFrom_none fun j a hj hne=>?_
 have hlt:=(List.getElem?_eq_some_iff.1 hj).1
 have:=h j hlt (by omega)
 unfold fSa at this
 rw [getD_eq_getElem?_getD,hj] at this
 exact this
structure Closed (P:KK->Prop):Prop where
 inv:∀ {k:KK},P k->fh k
 post:∀ {k:KK},P k->k.now < 2 ^ 40->∀ c:Int,P (KK.post k c).2
 step:∀ {k:KK},P k->k.now < 2 ^ 40->∀ c:Int,P (KK.step k c).2
variable {P:KK->Prop}
structure Posted (k k':KK) (c:Nat):Prop where
 calls:k'.calls = k.calls
 own:k'.fFa.1 = k.fFa.1
 p:k'.p = k.p
 events:k'.events = k.events
 up:∀ d,fSa k d <= fSa k' d
 now:k'.now = k.now + 1
 box:Mail.box k'.fJa c = (Mail.box k.fJa c).drop 1
theorem post_posted {k:KK} (A:fh k) (hn:k.now < 2 ^ 40) {c:Nat} (h:0 < KK.mail k c):Posted k (KK.post k c).2 c:=by
 have hi:KK.is k c = true:=by
  unfold KK.mail at h; split at h
  ·assumption
  ·omega
 unfold KK.mail at h
 rw [if_pos hi] at h
 have hw:Mail.waits k.fJa c ≠ 0:=by omega
 obtain ⟨n,e1,hlt⟩:=kq hi
 have hlt:c < k.calls.length:=by omega
 have hbl:k.fJa.length = k.calls.length:=by have:=A.ok.bl; have:=A.ok.cl; omega
 have hel:k.fFa.2.length = k.calls.length:=by have:=A.ok.el; have:=A.ok.cl; omega
 have htk:Mail.take k.fJa c = (((Mail.box k.fJa c).getD 0 0,true),k.fJa.set c ((Mail.box k.fJa c).drop 1)):=by
  unfold Mail.take; rw [if_neg hw]; simp
 have ht:=tick_now A.ok hn
 unfold KK.post
 rw [if_neg (by rw [hi]; simp),htk,if_neg (by simp)]
 refine ⟨rfl,?_,rfl,rfl,fun d=>?_,ht,?_⟩
 ·show (fMa.ack k.fFa c _).2.1 = _
  unfold fMa.ack; split <;> rfl
 ·show fSa k d <= (fMa.ack k.fFa c ((Mail.box k.fJa c).getD 0 0)).2.2.getD d 0
  unfold fMa.ack
  split
  ·show fSa k d <= (k.fFa.2.set (c:Int).toNat (mx (k.fFa.2.getD (c:Int).toNat 0) _)).getD d 0
   simp only [toNat_natCast,getD_eq_getElem?_getD,getElem?_set]
   by_cases e:c = d
   ·subst e
    rw [if_pos rfl,if_pos (by omega)]
    unfold fSa
    rw [getD_eq_getElem?_getD]
    show _ <= mx _ _
    unfold mx; split <;> omega
   ·rw [if_neg e]
    unfold fSa; rw [getD_eq_getElem?_getD]; exact le_refl _
  ·exact le_refl _
 ·show Mail.box (k.fJa.set c ((Mail.box k.fJa c).drop 1)) c = _
  simp only [Mail.box,toNat_natCast,getD_eq_getElem?_getD,getElem?_set]
  rw [if_pos trivial,if_pos (by omega)]; rfl
structure Drained (P:KK->Prop) (k k':KK) (c n:Nat):Prop where
 all:P k'
 calls:k'.calls = k.calls
 own:k'.fFa.1 = k.fFa.1
 p:k'.p = k.p
 events:k'.events = k.events
 up:∀ d,fSa k d <= fSa k' d
 lo:k.now <= k'.now
 now:k'.now <= k.now + n
 box:Mail.box k'.fJa c = []
theorem mail_len {k:KK} {c:Nat} (ok:KK.Ok k) (hc:c < k.calls.length):KK.mail k c = ((Mail.box k.fJa c).length:Int):=by
 have hbl:k.fJa.length = k.calls.length:=by have:=ok.bl; have:=ok.cl; omega
 have hi:KK.is k c = true:=by unfold KK.is; exact decide_eq_true (by omega)
 unfold KK.mail Mail.waits
 rw [if_pos hi,if_pos (by unfold Mail.has; exact decide_eq_true (by omega))]
theorem drain_drained (hp:Closed P) {c:Nat}:∀ (n:Nat) {k:KK},P k->c < k.calls.length->(Mail.box k.fJa c).length <= n->k.now + n < 2 ^ 40->Drained P k (KK.drain c n k) c n
 | 0,k,A,hc,hl,hn=>⟨A,rfl,rfl,rfl,rfl,fun _=>le_refl _,le_refl _,by show k.now <= k.now + 0; omega,List.eq_nil_of_length_eq_zero (by show (Mail.box k.fJa c).length = 0; omega)⟩
 | n + 1,k,A,hc,hl,hn=>by
  rw [KK.drain]
  by_cases hm:0 < KK.mail k c
  ·rw [if_pos hm]
   have Q:=post_posted (hp.inv A) (by omega) hm
   have A':=hp.post A (by omega) c
   have D:=drain_drained hp n A' (by rw [Q.calls]; exact hc) (by rw [Q.box,List.length_drop]; omega) (by rw [Q.now]; omega)
   have h1:=Q.now
   have h2:=D.now
   have h3:=D.lo
   exact ⟨D.all,D.calls.trans Q.calls,D.own.trans Q.own,D.p.trans Q.p,D.events.trans Q.events,fun d=>le_trans (Q.up d) (D.up d),by omega,by omega,D.box⟩
  ·rw [if_neg hm]
   rw [mail_len (hp.inv A).ok hc] at hm
   exact ⟨A,rfl,rfl,rfl,rfl,fun _=>le_refl _,le_refl _,by omega,List.eq_nil_of_length_eq_zero (by omega)⟩
structure Stepped (k k':KK) (c:Nat):Prop where
 other:∀ d,d ≠ c->k'.calls[d]? = k.calls[d]?
 len:k'.calls.length = k.calls.length
 own:∃ m,k'.fFa.1 = k.fFa.1++m/\m.length <= 1
 fSa:∀ d,fSa k' d = fSa k d
theorem step_stepped {k:KK} (A:fh k) {c:Nat} {x:KC} (hc:c < k.calls.length) (hx:k.calls[c]? = some (some x)):Stepped k (KK.step k c).2 c /\
  (x.fc.e0 ≠ 9->(KK.step k c).2.calls[c]? = some none\/∃ y,(KK.step k c).2.calls[c]? = some (some y)/\y.fPa = true/\y.fc = x.fc) /\
  (x.fPa = true->fMa.done k.fFa x.fAb = true->(KK.step k c).2.calls[c]? = some none):=by
 have hi:KK.is k c = true:=by unfold KK.is; exact decide_eq_true (by omega)
 have hcall:KK.call k c = some x:=by unfold KK.call; rw [toNat_natCast,getD_eq_getElem?_getD,hx]; rfl
 have hb:KK.busy k c = true:=by unfold KK.busy; rw [hi,hcall]; rfl
 have cw:=A.cw c x hx
 have hstep:(KK.step k c).2 = KK.work (KK.tick k) c x:=by unfold KK.step; rw [if_neg (by rw [hb]; simp),hcall]
 have ends_c:∀ (m:KK) (a:dZ) (l:jp),m.calls = k.calls->(KK.ends m c x a l).calls = k.calls.set c none:=fun m a l h=>by unfold KK.ends; simp [h]
 have set_none:∀ d,d ≠ c->(k.calls.set c none)[d]? = k.calls[d]?:=fun d h=>by rw [getElem?_set,if_neg (fun e=>h e.symm)]
 have at_none:(k.calls.set c none)[c]? = some none:=by rw [getElem?_set,if_pos rfl,if_pos hc]
 have told_nu:x.fPa = true->¬ bF (ax x.fc).1 = true:=fun ht hu=>by
  have T:=A.teller ⟨hx,ht⟩
  have w:=tM A.en.1 A.en.2 T.k
  have:=T.t
  rw [vO w.kind] at hu
  unfold bF at hu
  unfold Tk at this
  simp at hu
  omega
 rw [hstep]
 unfold KK.work
 by_cases hu:bF (ax x.fc).1 = true
 ·rw [if_pos hu]
  have ha:(KK.access (KK.tick k) c x).2.calls = k.calls/\(KK.access (KK.tick k) c x).2.fFa = k.fFa:=by
   unfold KK.access
   split
   ·exact ⟨rfl,rfl⟩
   ·split <;> exact ⟨rfl,rfl⟩
  have hcs:=ends_c (KK.access (KK.tick k) c x).2 (KK.access (KK.tick k) c x).1.1 (KK.access (KK.tick k) c x).1.2 ha.1
  have hep:(KK.ends (KK.access (KK.tick k) c x).2 c x (KK.access (KK.tick k) c x).1.1 (KK.access (KK.tick k) c x).1.2).fFa = k.fFa:=ha.2
  refine ⟨⟨fun d h=>by rw [hcs]; exact set_none d h,by rw [hcs]; simp,⟨[],by rw [hep]; simp,zero_le _⟩,fun d=>by unfold fSa; rw [hep]⟩,fun _=>.inl (by rw [hcs]; exact at_none),fun ht=>absurd hu (told_nu ht)⟩
 ·rw [if_neg hu]
  by_cases ht:x.fPa = false/\KK.takes (KK.tick k).p x = true
  ·rw [if_pos ht]
   have hcs:(KK.send (KK.clean (KK.tell (KK.tick k) c x) c) c x).calls = k.calls.set c (some { x with fPa:=true,fAb:=(fMa.begin_ k.fFa c).1.1 }):=by
    simp only [KK.send,KK.clean,KK.tell,KK.tick,toNat_natCast,List.set_set]
   have hep:(KK.send (KK.clean (KK.tell (KK.tick k) c x) c) c x).fFa = (fMa.begin_ k.fFa c).2:=rfl
   have hel:k.fFa.2.length = k.calls.length:=by have:=A.ok.el; have:=A.ok.cl; omega
   have he:(fMa.begin_ k.fFa c).2 = (k.fFa.1++[(c:Int)],k.fFa.2):=by
    have:fMa.is k.fFa c = true:=by unfold fMa.is; exact decide_eq_true (by omega)
    unfold fMa.begin_
    rw [if_pos this]
   refine ⟨⟨fun d h=>by rw [hcs,getElem?_set,if_neg (fun e=>h e.symm)],by rw [hcs]; simp,⟨[(c:Int)],by rw [hep,he],Nat.le_refl _⟩,fun d=>by unfold fSa; rw [hep,he]⟩,fun _=>.inr ⟨{ x with fPa:=true,fAb:=(fMa.begin_ k.fFa c).1.1 },by rw [hcs,getElem?_set,if_pos rfl,if_pos hc],rfl,rfl⟩,fun h=>by rw [ht.1] at h; cases h⟩
  ·rw [if_neg ht]
   by_cases hd:x.fPa = true/\fMa.done (KK.tick k).fFa x.fAb = false
   ·rw [if_pos hd]
    refine ⟨⟨fun d h=>rfl,rfl,⟨[],by simp [KK.tick],zero_le _⟩,fun d=>rfl⟩,fun _=>.inr ⟨x,hx,hd.1,rfl⟩,fun h1 h2=>?_⟩
    have:=hd.2
    rw [show (KK.tick k).fFa = k.fFa from rfl,h2] at this
    cases this
   ·rw [if_neg hd]
    by_cases h9:x.fc.e0 = 9
    ·have hnt:¬ x.fPa = true:=fun h=>by
      have:=(A.teller ⟨hx,h⟩).t
      unfold Tk at this; omega
     split
     ·have hcs:=ends_c { KK.tick k with p:=(PK.do_ (KK.tick k).p x.fGa x.fc).2 } (PK.do_ (KK.tick k).p x.fGa x.fc).1.1 jJ rfl
      refine ⟨⟨fun d h=>by rw [hcs]; exact set_none d h,by rw [hcs]; simp,⟨[],by show k.fFa.1 = k.fFa.1++[]; simp,zero_le _⟩,fun d=>rfl⟩,fun h=>absurd h9 h,fun h=>absurd h hnt⟩
     ·exact ⟨⟨fun d h=>rfl,rfl,⟨[],by show k.fFa.1 = k.fFa.1++[]; simp,zero_le _⟩,fun d=>rfl⟩,fun h=>absurd h9 h,fun h=>absurd h hnt⟩
    ·have hdn:(PK.do_ (KK.tick k).p x.fGa x.fc).1.2 = true:=do_done cw h9 A.en
     rw [if_pos hdn]
     have hcs:=ends_c { KK.tick k with p:=(PK.do_ (KK.tick k).p x.fGa x.fc).2 } (PK.do_ (KK.tick k).p x.fGa x.fc).1.1 jJ rfl
     refine ⟨⟨fun d h=>by rw [hcs]; exact set_none d h,by rw [hcs]; simp,⟨[],by show k.fFa.1 = k.fFa.1++[]; simp,zero_le _⟩,fun d=>rfl⟩,fun _=>.inl (by rw [hcs]; exact at_none),fun _ _=>by rw [hcs]; exact at_none⟩
structure Turned (P:KK->Prop) (k k':KK) (c:Nat):Prop where
 all:P k'
 other:∀ d,d ≠ c->k'.calls[d]? = k.calls[d]?
 len:k'.calls.length = k.calls.length
 own:∃ m,k'.fFa.1 = k.fFa.1++m/\m.length <= 1
 up:∀ d,fSa k d <= fSa k' d
 self:∀ n:Nat,n < k.fFa.1.length->k.fFa.1[n]? ≠ some (c:Int)->(n:Int) + 1 <= fSa k' c
 lo:k.now <= k'.now
 now:k'.now <= k.now + 5001
theorem busy_nat {k:KK} {c:Nat} (hc:c < k.calls.length):KK.busy k c = true↔∃ x,k.calls[c]? = some (some x):=by
 have hi:KK.is k c = true:=by unfold KK.is; exact decide_eq_true (by omega)
 unfold KK.busy KK.call
 rw [hi,toNat_natCast,getD_eq_getElem?_getD,List.getElem?_eq_getElem hc]
 cases k.calls[c] with
 | none=>simp
 | some x=>simp
theorem turn_turned (hp:Closed P) {k:KK} (A:P k) {c:Nat} (hc:c < k.calls.length) (hb:k.fFa.1.length <= 5000) (hnow:k.now < 2 ^ 35):Turned P k (KK.turn1 k c).1 c/\((KK.turn1 k c).2 = true↔∃ x,k.calls[c]? = some (some x)) /\
  (k.calls[c]? = some none->(KK.turn1 k c).1.calls[c]? = some none) /\
  (∀ x,k.calls[c]? = some (some x)->x.fc.e0 ≠ 9->(KK.turn1 k c).1.calls[c]? = some none\/∃ y,(KK.turn1 k c).1.calls[c]? = some (some y)/\y.fPa = true/\y.fc = x.fc) /\
  (∀ x,k.calls[c]? = some (some x)->x.fPa = true->(∀ d,d < k.calls.length->d ≠ c->x.fAb <= fSa k d)->(KK.turn1 k c).1.calls[c]? = some none):=by
 have hbox:(Mail.box k.fJa c).length <= 5000:=by
  have:=box_len (box_of (hp.inv A).ok.bx (c:Int))
  omega
 have D:=drain_drained hp 5000 A hc hbox (by omega)
 have hself:∀ n:Nat,n < k.fFa.1.length->k.fFa.1[n]? ≠ some (c:Int)->(n:Int) + 1 <= fSa (KK.drain c 5000 k) c:=by
  intro n h1 h2
  rcases (hp.inv D.all).mail c n (by rw [D.calls]; exact hc) (by rw [D.own]; exact h1) (by rw [D.own]; exact h2) with h | h
  ·exact h
  ·rw [D.box] at h; cases h
 unfold KK.turn1
 have hd:(KK.drain (c:Int) 5000 k) = KK.drain c 5000 k:=rfl
 by_cases hbz:KK.busy (KK.drain c 5000 k) c = true
 ·rw [if_pos hbz]
  dsimp only
  have hcd:c < (KK.drain c 5000 k).calls.length:=by rw [D.calls]; exact hc
  obtain ⟨x,hx⟩:=(busy_nat hcd).1 hbz
  obtain ⟨S,s1,s2⟩:=step_stepped (hp.inv D.all) hcd hx
  have hx':k.calls[c]? = some (some x):=by rw [← D.calls]; exact hx
  have hn:=KK.step_now (k:=KK.drain c 5000 k) (hp.inv D.all).ok.n0 (by have:=D.now; omega) c
  refine ⟨⟨hp.step D.all (by have:=D.now; omega) c,fun d h=>by rw [S.other d h,D.calls],by rw [S.len,D.calls],?_,fun d=>by rw [S.fSa]; exact D.up d,fun n h1 h2=>by rw [S.fSa]; exact hself n h1 h2,by have:=D.lo; omega,by have:=D.now; omega⟩,⟨fun _=>⟨x,hx'⟩,fun _=>rfl⟩,fun h=>(by rw [hx'] at h; cases h),fun y hy h9=>?_,fun y hy ht hh=>?_⟩
  ·obtain ⟨m,hm,hl⟩:=S.own
   exact ⟨m,by rw [hm,D.own],hl⟩
  ·rw [hx'] at hy; cases hy; exact s1 h9
  ·rw [hx'] at hy; cases hy
   refine s2 ht ?_
   have T:=(hp.inv D.all).told c x ⟨hx,ht⟩
   have hel:(KK.drain c 5000 k).fFa.2.length = k.calls.length:=by have:=(hp.inv D.all).ok.el; have:=(hp.inv D.all).ok.cl; rw [D.calls] at this; omega
   exact done_of T.2.1 T.2.2.1 T.2.2.2 fun d hdl hne=>le_trans (hh d (by omega) hne) (D.up d)
 ·rw [if_neg hbz]
  dsimp only
  have hcd:c < (KK.drain c 5000 k).calls.length:=by rw [D.calls]; exact hc
  have hno:¬ ∃ x,k.calls[c]? = some (some x):=fun ⟨x,h⟩=>hbz ((busy_nat hcd).2 ⟨x,by rw [D.calls]; exact h⟩)
  refine ⟨⟨D.all,fun d _=>by rw [D.calls],by rw [D.calls],⟨[],by rw [D.own]; simp,zero_le _⟩,D.up,hself,D.lo,by have:=D.now; omega⟩,⟨fun h=>(by cases h),fun h=>absurd h hno⟩,fun h=>by rw [D.calls]; exact h,fun y hy=>absurd ⟨y,hy⟩ hno,fun y hy=>absurd ⟨y,hy⟩ hno⟩
end
section
open Go Mb
variable {P:KK->Prop}
structure Swept (P:KK->Prop) (n c:Nat) (k k':KK) (b b':Bool):Prop where
 all:P k'
 len:k'.calls.length = k.calls.length
 own:∃ m,k'.fFa.1 = k.fFa.1++m/\m.length <= n
 up:∀ d,fSa k d <= fSa k' d
 lo:k.now <= k'.now
 now:k'.now <= k.now + n * 5001
 other:∀ d:Nat,d < c\/c + n <= d->k'.calls[d]? = k.calls[d]?
 none_:∀ d:Nat,k.calls[d]? = some none->k'.calls[d]? = some none
 busy:b' = true↔b = true\/∃ (d:Nat) (x:KC),c <= d/\d < c + n/\k.calls[d]? = some (some x)
 self:∀ d:Nat,c <= d->d < c + n->d < k.calls.length->∀ m:Nat,m < k.fFa.1.length->k.fFa.1[m]? ≠ some (d:Int)->(m:Int) + 1 <= fSa k' d
 told:∀ (d:Nat) x,c <= d->d < c + n->k.calls[d]? = some (some x)->x.fc.e0 ≠ 9->k'.calls[d]? = some none\/∃ y,k'.calls[d]? = some (some y)/\y.fPa = true/\y.fc = x.fc/\∀ e,d < e->e < c + n->e < k.calls.length->y.fAb <= fSa k' e
 fin:∀ (d:Nat) x,c <= d->d < c + n->k.calls[d]? = some (some x)->x.fPa = true->(∀ e,e < k.calls.length->(e < c\/d < e)->x.fAb <= fSa k e)->k'.calls[d]? = some none
theorem turn_out {k:KK} {c:Nat} (hc:k.calls.length <= c):KK.turn1 k c = (k,false):=by
 have hi:KK.is k c = false:=by unfold KK.is; exact decide_eq_false (by omega)
 have hm:KK.mail k c = 0:=by unfold KK.mail; rw [hi]; rfl
 have hd:KK.drain (c:Int) 5000 k = k:=by
  rw [show (5000:Nat) = 4999 + 1 from rfl,KK.drain,if_neg (by rw [hm]; omega)]
 have hb:KK.busy k c = false:=by unfold KK.busy; rw [hi]; rfl
 unfold KK.turn1
 rw [hd,if_neg (by rw [hb]; decide)]
theorem qG (hp:Closed P):∀ (n:Nat) {c:Nat} {k:KK} (b:Bool),P k->k.fFa.1.length + n <= 5000->k.now + n * 5001 < 2 ^ 35->Swept P n c k (KK.sweep n c k b).1 b (KK.sweep n c k b).2
 | 0,c,k,b,A,_,_=>⟨A,rfl,⟨[],by simp [KK.sweep],zero_le _⟩,fun _=>le_refl _,le_refl _,by simp [KK.sweep],fun _ _=>rfl,fun _ h=>h,⟨fun h=>.inl h,fun h=>by
   rcases h with h | ⟨d,x,h1,h2,_⟩
   ·exact h
   ·omega⟩,fun d h1 h2=>by omega,fun d x h1 h2=>by omega,fun d x h1 h2=>by omega⟩
 | n + 1,c,k,b,A,hl,hn=>by
  have hI:=hp.inv A
  have e1:KK.sweep (n + 1) c k b = KK.sweep n ((c + 1:Nat):Int) (KK.turn1 k c).1 ((KK.turn1 k c).2 || b):=rfl
  rw [e1]
  rcases lt_or_ge c k.calls.length with hc | hc
  ·obtain ⟨T,t1,t2,t3,t4⟩:=turn_turned hp A hc (by omega) (by omega)
   obtain ⟨m1,hm1,hl1⟩:=T.own
   have hn1:=T.now
   have hlo1:=T.lo
   have S:=qG hp n (c:=c + 1) ((KK.turn1 k c).2 || b) T.all (by rw [hm1,length_append]; omega) (by omega)
   obtain ⟨m2,hm2,hl2⟩:=S.own
   have hn2:=S.now
   have hlo2:=S.lo
   have own1:∀ m:Nat,m < k.fFa.1.length->(KK.turn1 k c).1.fFa.1[m]? = k.fFa.1[m]?:=fun m h=>by rw [hm1,List.getElem?_append_left h]
   have len1:k.fFa.1.length <= (KK.turn1 k c).1.fFa.1.length:=by rw [hm1,length_append]; omega
   have hS:=S.self
   have hTl:=T.len
   refine ⟨S.all,S.len.trans T.len,⟨m1++m2,by rw [hm2,hm1,List.append_assoc],by rw [length_append]; omega⟩,fun d=>le_trans (T.up d) (S.up d),by omega,by omega,fun d h=>?_,fun d h=>?_,?_,fun d h1 h2 h3 m h4 h5=>?_,fun d x h1 h2 h3 h4=>?_,fun d x h1 h2 h3 h4 h5=>?_⟩
   ·rw [S.other d (by omega),T.other d (by omega)]
   ·refine S.none_ d ?_
    by_cases e:d = c
    ·subst e; exact t2 h
    ·rw [T.other d e]; exact h
   ·rw [S.busy,Bool.or_eq_true,t1]
    constructor
    ·rintro ((⟨x,h⟩ | h) | ⟨d,x,h1,h2,h3⟩)
     ·exact .inr ⟨c,x,Nat.le_refl _,by omega,h⟩
     ·exact .inl h
     ·rw [T.other d (by omega)] at h3
      exact .inr ⟨d,x,by omega,by omega,h3⟩
    ·rintro (h | ⟨d,x,h1,h2,h3⟩)
     ·exact .inl (.inr h)
     ·by_cases e:d = c
      ·subst e; exact .inl (.inl ⟨x,h3⟩)
      ·exact .inr ⟨d,x,by omega,by omega,by rw [T.other d e]; exact h3⟩
   ·by_cases e:d = c
    ·subst e
     exact le_trans (T.self m h4 h5) (S.up d)
    ·exact hS d (by omega) (by omega) (by omega) m (by omega) (by rw [own1 m h4]; exact h5)
   ·by_cases e:d = c
    ·subst e
     rcases t3 x h3 h4 with h6 | ⟨y,h6,h7,h8⟩
     ·exact .inl (by rw [S.other d (by omega)]; exact h6)
     ·refine .inr ⟨y,by rw [S.other d (by omega)]; exact h6,h7,h8,fun e h9 h10 h11=>?_⟩
      have Q:=(hp.inv T.all).told d y ⟨h6,h7⟩
      have:=hS e (by omega) (by omega) (by omega) (y.fAb - 1).toNat (by omega) (by rw [Q.2.2.2]; intro h; injection h with h; omega)
      omega
    ·rcases S.told d x (by omega) (by omega) (by rw [T.other d e]; exact h3) h4 with h6 | ⟨y,h6,h7,h8,h9⟩
     ·exact .inl h6
     ·exact .inr ⟨y,h6,h7,h8,fun e h10 h11 h12=>h9 e h10 (by omega) (by omega)⟩
   ·by_cases e:d = c
    ·subst e
     rw [S.other d (by omega)]
     exact t4 x h3 h4 fun a ha hne=>h5 a ha (by omega)
    ·have Q:=hI.told d x ⟨h3,h4⟩
     refine S.fin d x (by omega) (by omega) (by rw [T.other d e]; exact h3) h4 fun a ha h=>?_
     by_cases e2:a = c
     ·subst e2
      have:=T.self (x.fAb - 1).toNat (by omega) (by rw [Q.2.2.2]; intro h; injection h with h; omega)
      omega
     ·exact le_trans (h5 a (by omega) (by omega)) (T.up a)
  ·rw [turn_out hc]
   have S:=qG hp n (c:=c + 1) (false || b) A (by omega) (by omega)
   obtain ⟨m2,hm2,hl2⟩:=S.own
   have hn2:=S.now
   have hno:∀ (d:Nat) (o:Option KC),k.calls[d]? = some o->d < k.calls.length:=fun d o h=>(List.getElem?_eq_some_iff.1 h).1
   refine ⟨S.all,S.len,⟨m2,hm2,by omega⟩,S.up,S.lo,by show (KK.sweep n ((c + 1:Nat):Int) k (false || b)).1.now <= _; omega,fun d h=>?_,S.none_,?_,fun d h1 h2 h3=>by omega,fun d x h1 h2 h3 h4=>?_,fun d x h1 h2 h3 h4 h5=>?_⟩
   ·rcases h with h | h
    ·exact S.other d (by omega)
    ·exact S.other d (by omega)
   ·rw [S.busy]
    constructor
    ·rintro (h | ⟨d,x,h1,h2,h3⟩)
     ·exact .inl (by simpa using h)
     ·exact .inr ⟨d,x,by omega,by omega,h3⟩
    ·rintro (h | ⟨d,x,h1,h2,h3⟩)
     ·exact .inl (by simpa using h)
     ·have:=hno d _ h3; omega
   ·have:=hno d _ h3; omega
   ·have:=hno d _ h3; omega
structure Settled (P:KK->Prop) (cores:Nat) (k k':KK):Prop where
 all:P k'
 len:k'.calls.length = k.calls.length
 lo:k.now <= k'.now
 now:k'.now <= k.now + 3 * (cores * 5001)
 own:k'.fFa.1.length <= k.fFa.1.length + 3 * cores
 idle:∀ (d:Nat) x,k'.calls[d]? ≠ some (some x)
theorem sT (hp:Closed P) {cores m:Nat} {k:KK} (A:P k) (hc:k.calls.length <= cores) (hc8:cores <= 8) (hl:k.fFa.1.length <= 4900) (hn:k.now < 2 ^ 34) (h9:∀ (d:Nat) x,k.calls[d]? = some (some x)->x.fc.e0 ≠ 9) :
  (KK.settle cores (m + 3) k).1 = true/\Settled P cores k (KK.settle cores (m + 3) k).2:=by
 have q1:cores * 5001 <= 8 * 5001:=Nat.mul_le_mul_right _ hc8
 have q2:((cores * 5001:Nat):Int) <= 8 * 5001:=by omega
 have q3:((cores * 5001:Nat):Int) = (cores:Int) * 5001:=by simp
 have inl:∀ {k:KK} {d:Nat} {o:Option KC},k.calls[d]? = some o->d < k.calls.length:=fun h=>(List.getElem?_eq_some_iff.1 h).1
 have none_of:∀ {k k':KK} {b b':Bool},Swept P cores 0 k k' b b'->k.calls.length <= cores->b' = false->∀ (d:Nat) x,k'.calls[d]? ≠ some (some x):=by
  intro k k' b b' S hk hb d x h
  have hd:=inl h
  have hk':=S.len
  rcases hcd:k.calls[d]? with _ | _ | y
  ·rw [List.getElem?_eq_none_iff] at hcd; omega
  ·rw [S.none_ d hcd] at h; cases h
  ·have:b' = true:=S.busy.2 (.inr ⟨d,y,zero_le _,by omega,hcd⟩)
   rw [hb] at this; cases this
 have S1:=qG hp cores (c:=0) (k:=k) false A (by omega) (by omega)
 rw [show m + 3 = (m + 2) + 1 from rfl,KK.settle]
 rw [show KK.sweep cores 0 k false = KK.sweep cores ((0:Nat):Int) k false from rfl]
 generalize KK.sweep cores ((0:Nat):Int) k false = z1 at *
 obtain ⟨k1,b1⟩:=z1
 dsimp only at *
 obtain ⟨m1,hm1,hl1⟩:=S1.own
 have hl1':k1.fFa.1.length <= k.fFa.1.length + cores:=by rw [hm1,length_append]; omega
 have n1:=S1.now
 by_cases hb1:b1 = false
 ·rw [if_pos hb1]
  exact ⟨rfl,S1.all,S1.len,S1.lo,by show k1.now <= _; omega,by show k1.fFa.1.length <= _; omega,none_of S1 hc hb1⟩
 ·rw [if_neg hb1]
  have len1:=S1.len
  have S2:=qG hp cores (c:=0) (k:=k1) false S1.all (by omega) (by omega)
  have all1:∀ (d:Nat) x,k1.calls[d]? = some (some x)->x.fPa = true/\∀ e,d < e->e < k1.calls.length->x.fAb <= fSa k1 e:=by
   intro d x h
   have hd:=inl h
   rcases hcd:k.calls[d]? with _ | _ | y
   ·rw [List.getElem?_eq_none_iff] at hcd; omega
   ·rw [S1.none_ d hcd] at h; cases h
   ·rcases S1.told d y (zero_le _) (by omega) hcd (h9 d y hcd) with h1 | ⟨z,h1,h2,h3,h4⟩
    ·rw [h1] at h; cases h
    ·rw [h1] at h; cases h
     exact ⟨h2,fun e he hl=>h4 e he (by omega) (by omega)⟩
  have idle2:∀ (d:Nat) x,(KK.sweep cores ((0:Nat):Int) k1 false).1.calls[d]? ≠ some (some x):=by
   intro d x h
   have hd:=inl h
   have len2:=S2.len
   rcases hcd:k1.calls[d]? with _ | _ | y
   ·rw [List.getElem?_eq_none_iff] at hcd; omega
   ·rw [S2.none_ d hcd] at h; cases h
   ·obtain ⟨g1,g2⟩:=all1 d y hcd
    have:=S2.fin d y (zero_le _) (by omega) hcd g1 fun e he hh=>g2 e (by omega) he
    rw [this] at h; cases h
  rw [show m + 2 = (m + 1) + 1 from rfl,KK.settle]
  rw [show KK.sweep cores 0 k1 false = KK.sweep cores ((0:Nat):Int) k1 false from rfl]
  obtain ⟨m2,hm2,hl2⟩:=S2.own
  have hl2':(KK.sweep cores ((0:Nat):Int) k1 false).1.fFa.1.length <= k1.fFa.1.length + cores:=by rw [hm2,length_append]; omega
  have n2:=S2.now
  have o1:=S1.lo
  have o2:=S2.lo
  have len2:=S2.len
  generalize KK.sweep cores ((0:Nat):Int) k1 false = z2 at *
  obtain ⟨k2,b2⟩:=z2
  dsimp only at *
  by_cases hb2:b2 = false
  ·rw [if_pos hb2]
   exact ⟨rfl,S2.all,by show k2.calls.length = _; omega,by show k.now <= k2.now; omega,by show k2.now <= _; omega,by show k2.fFa.1.length <= _; omega,idle2⟩
  ·rw [if_neg hb2]
   have S3:=qG hp cores (c:=0) (k:=k2) false S2.all (by omega) (by omega)
   rw [show m + 1 = m + 1 from rfl,KK.settle]
   rw [show KK.sweep cores 0 k2 false = KK.sweep cores ((0:Nat):Int) k2 false from rfl]
   obtain ⟨m3,hm3,hl3⟩:=S3.own
   have hl3':(KK.sweep cores ((0:Nat):Int) k2 false).1.fFa.1.length <= k2.fFa.1.length + cores:=by rw [hm3,length_append]; omega
   have n3:=S3.now
   have o3:=S3.lo
   have len3:=S3.len
   have hb3:(KK.sweep cores ((0:Nat):Int) k2 false).2 = false:=by
    cases hz:(KK.sweep cores ((0:Nat):Int) k2 false).2 with
    | false=>rfl
    | true =>
     rcases S3.busy.1 hz with h | ⟨d,x,_,_,h⟩
     ·cases h
     ·exact absurd h (idle2 d x)
   rw [if_pos hb3]
   exact ⟨rfl,S3.all,by show (KK.sweep cores ((0:Nat):Int) k2 false).1.calls.length = _; omega,by show k.now <= (KK.sweep cores ((0:Nat):Int) k2 false).1.now; omega,by show (KK.sweep cores ((0:Nat):Int) k2 false).1.now <= _; omega,by show (KK.sweep cores ((0:Nat):Int) k2 false).1.fFa.1.length <= _; omega,none_of S3 (by omega) hb3⟩
theorem IE.ended {k:KK} (A:IE k) (h:∀ (d:Nat) x,k.calls[d]? ≠ some (some x)):∀ e ∈ k.events,e.fYa ≠ 0/\e.fHa ≠ 0:=by
 intro e he
 obtain ⟨i,hi⟩:=List.getElem?_of_mem he
 have h0:e.fHa ≠ 0:=fun h0=>by
  obtain ⟨x,hx,_⟩:=A.ev.open_ i e hi h0
  exact h _ x hx
 rcases (A.ev.one i e hi).st with s | s
 ·exact absurd s.1 h0
 ·exact ⟨by rw [s.2.1]; exact h0,h0⟩
end
section
open Go Mb
theorem mem_othersFrom {k:PK} {es:List bk} {env pg j:Int}:∀ {L:List Int},j ∈ L->fLa.takes (fLa.ev es j) = true->PK.q (PK.do_ k (fLa.ev es j).fCa (fLa.ev es j).fKa).2 env pg ∈ fLa.fIb k es env pg L
 | i::L,h,ht=>by
  rw [fLa.fIb]
  rcases List.mem_cons.1 h with rfl | h
  ·rw [if_pos ht]; exact List.mem_cons_self
  ·have:=mem_othersFrom (k:=k) (env:=env) (pg:=pg) h ht
   split
   ·exact List.mem_cons_of_mem _ this
   ·exact this
theorem eqb_answer (a:dZ):ab.eqb a a = true:=by simp [ab.eqb]
theorem eqb_line (a:jp):ao.eqb a a = true:=by simp [ao.eqb]
def wY (kind:Int):Int:=if kind = 20 then 1 else if kind = 21 then 2 else 3
theorem lets_need {kind:Int} (h:20 <= kind/\kind <= 23) (r:Int):cq r kind = aP (wY kind) r:=by
 have:kind = 20\/kind = 21\/kind = 22\/kind = 23:=by omega
 rcases this with rfl | rfl | rfl | rfl <;> rfl
theorem left_frame {p:PK} {x:KC} {a pg:Int} {qq:Pte} (h:(KK.left p x a pg qq).fBa ≠ 0):(KK.left p x a pg qq).fEa = qq.fEa/\(KK.left p x a pg qq).fDa = qq.fDa:=by
 unfold KK.left at h ⊢
 by_cases h7:x.fc.e0 = 7
 ·rw [if_pos h7] at h ⊢
  split
  ·rename_i hh; rw [if_pos hh] at h; exact absurd rfl h
  ·exact ⟨rfl,rfl⟩
 ·rw [if_neg h7] at h ⊢
  by_cases h8:x.fc.e0 = 8
  ·rw [if_pos h8]; split <;> exact ⟨rfl,rfl⟩
  ·rw [if_neg h8] at h ⊢
   split
   ·rename_i hh; rw [if_pos hh] at h; exact absurd rfl h
   ·exact ⟨rfl,rfl⟩
theorem wS {p:PK} {a pg:Int}:∀ (cs:List (Option KC)) (qq:Pte),KK.fEb p a pg cs false qq = (qq,false)
 | [],_=>rfl
 | none::cs,qq=>by rw [KK.fEb]; exact wS cs qq
 | some x::cs,qq=>by rw [KK.fEb,if_neg (fun h=>Bool.false_ne_true h.1)]; exact wS cs qq
theorem ul {p:PK} {a pg:Int}:∀ (cs:List (Option KC)) (b:Bool) (qq:Pte),(KK.fEb p a pg cs b qq).1.fBa ≠ 0->(KK.fEb p a pg cs b qq).1.fEa = qq.fEa/\(KK.fEb p a pg cs b qq).1.fDa = qq.fDa
 | [],_,_,_=>⟨rfl,rfl⟩
 | none::cs,b,qq,h=>by rw [KK.fEb] at h ⊢; exact ul cs b qq h
 | some x::cs,b,qq,h=>by
  rw [KK.fEb] at h ⊢
  by_cases hc:b = true/\x.fPa = true
  ·rw [if_pos hc] at h ⊢
   by_cases hz:(KK.left p x a pg qq).fBa = 0
   ·rw [hz] at h
    have:((0:Int) != 0) = false:=rfl
    rw [this,wS] at h
    exact absurd hz h
   ·obtain ⟨a1,a2⟩:=ul cs _ _ h
    obtain ⟨b1,b2⟩:=left_frame hz
    exact ⟨a1.trans b1,a2.trans b2⟩
  ·rw [if_neg hc] at h ⊢; exact ul cs b qq h
theorem put_well {p:Pte} (h:0 <= p.fEa/\p.fEa < 16/\0 <= p.fDa/\p.fDa < 8) (hr:1 <= p.fBa/\p.fBa <= 3):(eQ p).2 = true:=by
 unfold eQ
 cases hq:an.eqb p ⟨0,0,0⟩ with
 | true=>rfl
 | false =>
  have:(((((decide (p.fEa < 0)) || (decide (p.fEa >= 16))) || (decide (p.fDa < 0))) || (decide (p.fDa >= 8))) || (!(cf p.fBa))) = false:=by
   rw [uy.2 hr]; simp; omega
  simp only [cond_false]
  rw [this]; rfl
theorem tabFor_seen {k:KK} (F:PK.Fine k.p) {e pg:Int} {l:jp} (hs:(KK.seen k e pg).2 = true) (hc:Cov (KK.seen k e pg).1 l) (hq:(PK.q k.p e pg).fBa ≠ 0):(Table.get (KK.fGb k e pg) pg).1 = (KK.seen k e pg).1:=by
 have hr:=hc.r
 have hfs:(KK.seen k e pg).1.fEa = (PK.q k.p e pg).fEa/\(KK.seen k e pg).1.fDa = (PK.q k.p e pg).fDa:=by
  have h0:(KK.seen k e pg).1.fBa ≠ 0:=by omega
  unfold KK.seen at h0 ⊢
  exact ul _ _ _ h0
 have hb:=F.by_ e pg hq
 have hcap:(fAa.get k.p.caps e (PK.q k.p e pg).fDa).fBa ≠ 0:=by have:=(di hb.2.2).2; omega
 have hf:=PK.fine_frame F.ok.fine hb.1 hcap
 have hsl:=(PK.has_iff F.ok).1 hb.1
 have hsz:=fB.1 F.ok.sz
 obtain ⟨_,hg,_⟩:=PK.q_on hq
 have hpg:bv pg = true:=by
  by_cases hh:bv pg = true/\(Table.at_ (PK.tab k.p e) pg).fBa ≠ 0
  ·exact hh.1
  ·rw [Table.get_no hh] at hg; cases hg
 have hz:(Table.insert (replicate 8 dh) pg (KK.seen k e pg).1).1 = 0:=by
  unfold Table.insert
  have key:∀ n,n < 8->((replicate 8 dh).getD n dh).fBa = 0:=by decide
  obtain ⟨n,e1,hn⟩:=mM hpg
  have hat:(Table.at_ (replicate 8 dh) pg).fBa = 0:=by unfold Table.at_; rw [e1,toNat_natCast]; exact key n hn
  rw [if_neg,if_neg (by rw [hat]; simp)]
  rw [put_well (by rw [hfs.1,hfs.2,← hb.2.1]; omega) hr,hpg]
  simp; omega
 unfold KK.fGb
 rw [if_pos hs,Table.get_insert (by simp) _ _ hz,if_pos rfl]
theorem stay_of_aft {p:PK} {e:Int} {c:cN} {a pg r:Int} (hq:(PK.q p a pg).fBa ≠ 0) (ht:Tk c) (h:aP r (PK.aft p e c a pg).fBa = true):Stay p e c a pg (PK.q p a pg).fDa r:=by
 have hno:∀ x:Pte,x = dh->aP r x.fBa = true->False:=fun x e1 h1=>by
  have:=(di h1).2; rw [e1] at this; simp at this
 unfold PK.aft at h
 refine ⟨fun h7 ho=>?_,fun h8 e1 e2 hw=>?_,fun h45=>?_⟩
 ·rw [if_pos h7,if_pos ho] at h; exact hno _ rfl h
 ·rw [if_neg (by omega),if_pos h8,if_pos ⟨⟨e1,e2⟩,by subst e1; subst e2; exact ⟨hq,hw⟩⟩] at h
  exact h
 ·cases hg:PK.gz p e c a (PK.q p a pg).fDa with
  | false=>rfl
  | true=>rw [if_neg (by omega),if_neg (by omega),if_pos ⟨hq,hg⟩] at h; exact (hno _ rfl h).elim
theorem kmem_has {fs:List (List Int)} {f a:Int} (h0:0 <= f) (h1:f < fs.length) (h2:0 <= a) (h3:a < 16):Mem.has fs f a:=⟨h0,h1,h2,h3⟩
theorem touch_well {k:PK} (ok:PK.Ok k) {f:Int} {c:cN} (cw:Cw c) (w:Well k.s.fIa c) (hu:20 <= c.e0) (h0:0 <= f) (h1:f < k.s.fCb):(PK.touch k f c).1.2 = true/\(PK.touch k f c).1.1.fXa = 0:=by
 have hk:=vO w.kind
 have h2:=w.w7 hu
 have harg:Word.arg c 2 16 = (c.e2,true):=by
  have h3:(Word.arg c 2 16).2 = true:=(arg_of (by decide) (by decide) (by decide) (by decide)).2 h2
  unfold Word.arg at h3 ⊢
  split
  ·rename_i hh; rw [if_pos hh] at h3; cases h3
  ·show (i64.wrap c.e2,true) = _
   rw [kwr cw.c2 h2]
 have hml:=ok.ml
 have hm:Mem.has k.m f c.e2:=kmem_has h0 (by omega) cw.c2 h2
 have hu':bF c.e0 = true:=by unfold bF; have:=w.kind; simp; omega
 have hld:(Mem.load k.m f c.e2).2 = true:=by unfold Mem.load; rw [if_pos hm]
 have hst:∀ v,(Mem.store k.m f c.e2 v).1 = true:=fun v=>by unfold Mem.store; rw [if_pos hm]
 unfold PK.touch
 rw [hk,harg]
 simp only
 rw [if_neg (by rw [hu']; simp)]
 repeat' split
 ·exact ⟨hld,rfl⟩
 ·exact ⟨hst _,rfl⟩
 ·refine ⟨?_,rfl⟩
  unfold Mem.cas; split <;> exact hld
 ·refine ⟨?_,rfl⟩
  unfold Mem.add; exact hld
theorem walk_cov {k:KK} (I:fh k) {c:Nat} (hc:c < k.calls.length) {x:KC} (h:(KK.fBb k c x).1.2 = true) (hkind:20 <= i64.wrap x.fc.e0/\i64.wrap x.fc.e0 <= 23):Cov (PK.q k.p x.fGa (i64.wrap x.fc.e1)) (KK.fBb k c x).1.1/\(KK.fBb k c x).1.1.fCa = x.fGa/\(KK.fBb k c x).1.1.fOa = i64.wrap x.fc.e1/\cq (KK.fBb k c x).1.1.fBa (i64.wrap x.fc.e0) = true:=by
 unfold KK.fBb at h ⊢
 rw [kbuf_nat] at h ⊢
 unfold User.walk at h ⊢
 split
 ·rename_i hf
  have f:=Tlb.find_in (I.tok c hc) hf.1
  have L:=I.line c hc _ f.1 (by rw [f.2.1]; exact f.2.2.2)
  have hcov:=L.cov
  rw [f.2.1,f.2.2.1] at hcov
  exact ⟨hcov,f.2.1,f.2.2.1,hf.2⟩
 ·rename_i hnf
  rw [if_neg hnf] at h
  split
  ·rename_i hl; rw [if_pos hl] at h; cases h
  ·rename_i hl
   have hl':cq (Table.get (KK.fGb k x.fGa (i64.wrap x.fc.e1)) (i64.wrap x.fc.e1)).1.fBa (i64.wrap x.fc.e0) = true:=by simpa using hl
   have hr:=(di ((lets_need hkind _) ▸ hl')).2
   obtain ⟨s1,s2⟩:=tabFor_get k x.fGa (i64.wrap x.fc.e1) (by omega)
   refine ⟨?_,rfl,rfl,hl'⟩
   have hcov:Cov (KK.seen k x.fGa (i64.wrap x.fc.e1)).1 (⟨x.fGa,i64.wrap x.fc.e1,(Table.get (KK.fGb k x.fGa (i64.wrap x.fc.e1)) (i64.wrap x.fc.e1)).1.fEa,(Table.get (KK.fGb k x.fGa (i64.wrap x.fc.e1)) (i64.wrap x.fc.e1)).1.fBa⟩:jp):=by
    refine ⟨?_,?_⟩
    ·show (KK.seen k x.fGa (i64.wrap x.fc.e1)).1.fEa = (Table.get (KK.fGb k x.fGa (i64.wrap x.fc.e1)) (i64.wrap x.fc.e1)).1.fEa
     rw [s2]
    ·show aP (Table.get (KK.fGb k x.fGa (i64.wrap x.fc.e1)) (i64.wrap x.fc.e1)).1.fBa (KK.seen k x.fGa (i64.wrap x.fc.e1)).1.fBa = true
     rw [← s2]; exact within_refl hr
   exact ((seen_cov I.en I.F I.tell_all _ _ _).1 ⟨s1,hcov⟩).1
theorem walk_fault {k:KK} (I:fh k) {c:Nat} {x:KC} (h:(KK.fBb k c x).1.2 = false) (hkind:20 <= i64.wrap x.fc.e0/\i64.wrap x.fc.e0 <= 23):cq (PK.q k.p x.fGa (i64.wrap x.fc.e1)).fBa (i64.wrap x.fc.e0) = false\/∃ d y,Tells k d y/\cq (PK.q (PK.do_ k.p y.fGa y.fc).2 x.fGa (i64.wrap x.fc.e1)).fBa (i64.wrap x.fc.e0) = false:=by
 have hl:cq (Table.get (KK.fGb k x.fGa (i64.wrap x.fc.e1)) (i64.wrap x.fc.e1)).1.fBa (i64.wrap x.fc.e0) = false:=by
  unfold KK.fBb User.walk at h
  split at h
  ·cases h
  ·split at h
   ·rename_i hh; exact hh
   ·cases h
 rw [lets_need hkind] at hl ⊢
 cases hq:aP (wY (i64.wrap x.fc.e0)) (PK.q k.p x.fGa (i64.wrap x.fc.e1)).fBa with
 | false=>exact .inl rfl
 | true =>
  right
  have hne:(PK.q k.p x.fGa (i64.wrap x.fc.e1)).fBa ≠ 0:=by have:=(di hq).2; omega
  by_cases hall:∀ y,some y ∈ k.calls->y.fPa = true->Stay k.p y.fGa y.fc x.fGa (i64.wrap x.fc.e1) (PK.q k.p x.fGa (i64.wrap x.fc.e1)).fDa (wY (i64.wrap x.fc.e0))
  ·exfalso
   obtain ⟨s1,s2⟩:=(seen_cov I.en I.F I.tell_all x.fGa (i64.wrap x.fc.e1) (⟨x.fGa,i64.wrap x.fc.e1,(PK.q k.p x.fGa (i64.wrap x.fc.e1)).fEa,wY (i64.wrap x.fc.e0)⟩:jp)).2 ⟨⟨rfl,hq⟩,hall⟩
   rw [tabFor_seen I.F s1 s2 hne,s2.w] at hl
   cases hl
  ·simp only [Classical.not_forall] at hall
   obtain ⟨y,hy,hty,hns⟩:=hall
   obtain ⟨d,hd⟩:=calls_mem hy
   refine ⟨d,y,⟨hd,hty⟩,?_⟩
   have T:=I.teller ⟨hd,hty⟩
   have hcs:=I.ok.cs y hy
   rw [lets_need hkind,PK.do_q I.F T.w (PK.off_iff.2 ⟨hcs.2.2.1,hcs.2.2.2⟩) T.k T.t]
   cases ha:aP (wY (i64.wrap x.fc.e0)) (PK.aft k.p y.fGa y.fc x.fGa (i64.wrap x.fc.e1)).fBa with
   | false=>rfl
   | true=>exact absurd (stay_of_aft hne T.t ha) hns
theorem access_good {k:KK} (I:fh k) {c:Nat} (hc:c < k.calls.length) {x:KC} (hx:k.calls[c]? = some (some x)) (hu:bF (ax x.fc).1 = true) {es:List bk} {e:bk} (h1:e.fKa = x.fc) (h2:e.fCa = x.fGa) (h3:e.fVa = (KK.access k c x).1.1) (h4:e.fTa = (KK.access k c x).1.2)
  (hov:∀ d y,Tells k d y->y.fat ∈ Hist.over es e.fHa/\(fLa.ev es y.fat).fKa = y.fc/\(fLa.ev es y.fat).fCa = y.fGa):fLa.access k.p es k.p.s e = true/\(if fLa.well k.p.s e = true then (PK.touch k.p e.fTa.fEa e.fKa).2 else k.p) = (KK.access k c x).2.p:=by
 have cw:=I.cw c x hx
 unfold fLa.access fLa.well
 rw [h1,h2,h3,h4]
 unfold KK.access
 by_cases hk:Word.check x.fc k.p.s.fIa ≠ 0
 ·rw [if_pos hk,if_pos hk]
  simp only
  refine ⟨by rw [eqb_answer,eqb_line]; rfl,?_⟩
  have:(Word.check x.fc k.p.s.fIa == 0) = false:=by simpa using hk
  rw [this]; simp
 ·rw [if_neg hk,if_neg hk]
  have hk0:Word.check x.fc k.p.s.fIa = 0:=by simpa using hk
  have w:=tM I.en.1 I.en.2 hk0
  have hkv:=vO w.kind
  have hu0:20 <= x.fc.e0/\x.fc.e0 <= 23:=by rw [hkv] at hu; unfold bF at hu; simpa using hu
  have hw0:=PK.w0 w
  have hkind:20 <= i64.wrap x.fc.e0/\i64.wrap x.fc.e0 <= 23:=by rw [hw0]; exact hu0
  by_cases hf:(KK.fBb k c x).1.2 = false
  ·rw [if_pos hf]
   simp only [if_true]
   refine ⟨?_,by simp⟩
   rw [eqb_line]
   have hfa:fLa.faults e (fLa.others k.p es e.fHa x.fGa (i64.wrap x.fc.e1)) = true:=by
    unfold fLa.faults fLa.others
    rw [h1,List.any_eq_true]
    rcases walk_fault I hf hkind with h | ⟨d,y,hy,h⟩
    ·exact ⟨_,List.mem_cons_self,by show (!(cq (PK.q k.p x.fGa (i64.wrap x.fc.e1)).fBa _)) = true; rw [h]; rfl⟩
    ·obtain ⟨o1,o2,o3⟩:=hov d y hy
     have T:=I.teller hy
     have htk:fLa.takes (fLa.ev es y.fat) = true:=by
      have wy:=tM I.en.1 I.en.2 T.k
      have:=T.t
      unfold fLa.takes
      rw [o2,vO wy.kind]
      unfold Tk at this
      rcases this with h | h | h | h <;> simp [h]
     have hm:=mem_othersFrom (k:=k.p) (env:=x.fGa) (pg:=i64.wrap x.fc.e1) o1 htk
     rw [o2,o3] at hm
     exact ⟨_,List.mem_cons_of_mem _ hm,by rw [h]; rfl⟩
   rw [hfa]; rfl
  ·rw [if_neg hf]
   have hf':(KK.fBb k c x).1.2 = true:=by simpa using hf
   obtain ⟨cv,e1,e2,e3⟩:=walk_cov I hc hf' hkind
   have hne:(PK.q k.p x.fGa (i64.wrap x.fc.e1)).fBa ≠ 0:=by have:=cv.r; omega
   have hb:=I.F.by_ _ _ hne
   have hcap:(fAa.get k.p.caps x.fGa (PK.q k.p x.fGa (i64.wrap x.fc.e1)).fDa).fBa ≠ 0:=by have:=(di hb.2.2).2; omega
   have hfr:=PK.fine_frame I.F.ok.fine hb.1 hcap
   rw [hb.2.1,cv.f] at hfr
   obtain ⟨t1,t2⟩:=touch_well I.F.ok cw w hu0.1 hfr.1 hfr.2
   have hlr:=(di cv.w).1
   simp only
   rw [t2,if_neg (by decide)]
   have hgo:fLa.goes e (fLa.others k.p es e.fHa x.fGa (i64.wrap x.fc.e1)) = true:=by
    unfold fLa.goes fLa.others
    rw [h4,List.any_eq_true]
    refine ⟨_,List.mem_cons_self,?_⟩
    unfold KK.access
    rw [if_neg hk,if_neg hf]
    show ((PK.q k.p x.fGa (i64.wrap x.fc.e1)).fEa == _ && _) = true
    rw [cv.f]
    show ((_ == _) && aP _ (PK.q k.p x.fGa (i64.wrap x.fc.e1)).fBa) = true
    rw [cv.w]; simp
   have hown:fLa.own e = true:=by
    unfold fLa.own
    rw [h1,h2,h4]
    unfold KK.access
    rw [if_neg hk,if_neg hf]
    simp only
    rw [e1,e2,e3]; simp
   rw [hgo,hown,t1,eqb_answer,hk0]
   refine ⟨rfl,?_⟩
   rw [if_pos]
   simp; omega
end
section
open Go Mb
namespace fLa
def jstep (es:List bk) (s:eK) (k:PK) (i:Int):PK:=if fw (ev es i) = true then (if well s (ev es i) = true then (PK.touch k (ev es i).fTa.fEa (ev es i).fKa).2 else k) else (PK.do_ k (ev es i).fCa (ev es i).fKa).2
def good (es:List bk) (s:eK) (k:PK) (i:Int):Prop:=(fw (ev es i) = true->access k es s (ev es i) = true)/\(fw (ev es i) = false->(PK.do_ k (ev es i).fCa (ev es i).fKa).1.2 = true/\(PK.do_ k (ev es i).fCa (ev es i).fKa).1.1 = (ev es i).fVa)
def Good (es:List bk) (s:eK):PK->List Int->Prop
 | _,[]=>True
 | k,i::l=>good es s k i/\Good es s (jstep es s k i) l
def jrun (es:List bk) (s:eK):PK->List Int->PK
 | k,[]=>k
 | k,i::l=>jrun es s (jstep es s k i) l
theorem run_good {es:List bk} {s:eK} (lin acc:Bool):∀ {l:List Int} {k:PK},Good es s k l->runFrom es s lin acc k l = (-1,true)
 | [],_,_=>rfl
 | i::l,k,⟨g,h⟩=>by
  have ih:=run_good lin acc h
  rw [runFrom]
  unfold jstep at ih
  by_cases hu:fw (ev es i) = true
  ·rw [if_pos hu] at ih ⊢
   rw [if_neg (by rw [g.1 hu]; simp)]
   exact ih
  ·rw [if_neg hu] at ih ⊢
   have g2:=g.2 (by simpa using hu)
   rw [if_neg,ih]
   rintro ⟨_,h1 | h1⟩
   ·rw [g2.1] at h1; cases h1
   ·rw [g2.2,eqb_answer] at h1; cases h1
theorem Good_app {es:List bk} {s:eK} {i:Int}:∀ {l:List Int} {k:PK},Good es s k l->good es s (jrun es s k l) i->Good es s k (l++[i])
 | [],_,_,g=>⟨g,trivial⟩
 | _::_,_,⟨a,b⟩,g=>⟨a,Good_app b g⟩
theorem jrun_app {es:List bk} {s:eK} {i:Int}:∀ {l:List Int} {k:PK},jrun es s k (l++[i]) = jstep es s (jrun es s k l) i
 | [],_=>rfl
 | _::l,_=>jrun_app (l:=l)
structure Alike (es es':List bk) (i:Int):Prop where
 e:ev es' i = ev es i
 o:Hist.over es' (ev es i).fHa = Hist.over es (ev es i).fHa
 c:∀ j ∈ Hist.over es (ev es i).fHa,(ev es' j).fKa = (ev es j).fKa/\(ev es' j).fCa = (ev es j).fCa
theorem vF {k:PK} {es es':List bk} {env pg:Int}:∀ {L:List Int},(∀ j ∈ L,(ev es' j).fKa = (ev es j).fKa/\(ev es' j).fCa = (ev es j).fCa)->fIb k es' env pg L = fIb k es env pg L
 | [],_=>rfl
 | i::L,h=>by
  have h1:=h i (by simp)
  have ih:=vF (k:=k) (env:=env) (pg:=pg) (L:=L) (fun j hj=>h j (by simp [hj]))
  have ht:takes (ev es' i) = takes (ev es i):=by unfold takes; rw [h1.1]
  rw [fIb,fIb,ht,h1.1,h1.2,ih]
theorem Alike.access {es es':List bk} {i:Int} (A:Alike es es' i) (k:PK) (s:eK):access k es' s (ev es' i) = access k es s (ev es i):=by
 have ho:others k es' (ev es i).fHa (ev es i).fCa (i64.wrap (ev es i).fKa.e1) = others k es (ev es i).fHa (ev es i).fCa (i64.wrap (ev es i).fKa.e1):=by
  unfold others
  rw [A.o,vF A.c]
 unfold fLa.access
 rw [A.e,ho]
theorem Alike.good {es es':List bk} {i:Int} (A:Alike es es' i) {k:PK} {s:eK} (g:good es s k i):good es' s k i:=by
 have h:=A.access k s
 unfold fLa.good at g ⊢
 rw [h,A.e]; exact g
theorem Alike.jstep {es es':List bk} {i:Int} (A:Alike es es' i) (k:PK) (s:eK):jstep es' s k i = jstep es s k i:=by
 unfold fLa.jstep; rw [A.e]
theorem Good_alike {es es':List bk} {s:eK}:∀ {l:List Int} {k:PK},(∀ i ∈ l,Alike es es' i)->Good es s k l->Good es' s k l/\jrun es' s k l = jrun es s k l
 | [],_,_,_=>⟨trivial,rfl⟩
 | i::l,k,h,⟨a,b⟩=>by
  have A:=h i (by simp)
  obtain ⟨h1,h2⟩:=Good_alike (l:=l) (fun j hj=>h j (by simp [hj])) b
  have ej:=A.jstep k s
  refine ⟨⟨A.good a,by rw [ej]; exact h1⟩,?_⟩
  rw [jrun,jrun,ej]; exact h2
end fLa
theorem ev_get {es:List bk} {n:Nat} {e:bk} (h:es[n]? = some e):fLa.ev es n = e:=by simp [fLa.ev,h]
theorem placesFrom_set (P:bk->Bool):∀ (es:List bk) (n:Nat) (d e:bk) (i:Int),es[n]? = some d->P e = P d->Hist.fFb P (es.set n e) i = Hist.fFb P es i
 | [],_,_,_,_,h,_=>by simp at h
 | a::es,0,d,e,i,h,hp=>by
  simp at h; subst h
  rw [List.set_cons_zero,Hist.fFb,Hist.fFb,hp]
 | a::es,n + 1,d,e,i,h,hp=>by
  rw [List.set_cons_succ,Hist.fFb,Hist.fFb,placesFrom_set P es n d e (i + 1) (by simpa using h) hp]
theorem uR (P:bk->Bool):∀ (es:List bk) (i:Int),(Hist.fFb P es i).Nodup
 | [],_=>.nil
 | e::es,i=>by
  rw [Hist.fFb]
  split
  ·refine List.nodup_cons.2 ⟨fun h=>?_,uR P es (i + 1)⟩
   obtain ⟨n,_,_,h2,_⟩:=Hist.mem_placesFrom.1 h
   omega
  ·exact uR P es (i + 1)
structure Log (k:KK) (log:List Int):Prop where
 mem:∀ i,i ∈ log↔∃ (n:Nat) (e:bk),k.events[n]? = some e/\i = n/\e.fHa > 0
 up:log.Pairwise (fun a b=>Hist.eff k.events a < Hist.eff k.events b)
 good:fLa.Good k.events k.p.s (PK.new k.p.s) log
 run:fLa.jrun k.events k.p.s (PK.new k.p.s) log = k.p
theorem Log.nodup {k:KK} {log:List Int} (L:Log k log):log.Nodup:=L.up.imp (fun h e=>by rw [e] at h; exact absurd h (Int.lt_irrefl _))
theorem jo.apart {k:KK} (E:jo k):Hist.Apart k.events:=by
 intro a b ha hb he
 obtain ⟨n,d,h1,rfl,h2⟩:=Hist.mem_places.1 ha
 obtain ⟨m,e,h3,rfl,h4⟩:=Hist.mem_places.1 hb
 rw [Hist.eff_nat h1,Hist.eff_nat h3] at he
 have:=E.ef n m d e h1 h3 (by simpa using h2) he
 rw [this]
theorem Log.order {k:KK} {log:List Int} (E:jo k) (L:Log k log):log = Hist.order k.events:=by
 refine Hist.order_of E.apart ?_ (L.up.imp (fun h=>Int.le_of_lt h))
 refine (List.perm_ext_iff_of_nodup L.nodup (uR _ _ _)).2 fun i=>?_
 rw [L.mem]
 show _↔i ∈ Hist.places _ _
 rw [Hist.mem_places]
 simp
theorem log_new (s:eK):Log (KK.new s) []:=by
 refine ⟨fun i=>?_,.nil,trivial,rfl⟩
 simp [KK.new]
theorem Log.same {k k':KK} {log:List Int} (L:Log k log) (he:k'.events = k.events) (hp:k'.p = k.p):Log k' log:=by
 obtain ⟨a,b,c,d⟩:=L
 exact ⟨fun i=>by rw [he]; exact a i,by rw [he]; exact b,by rw [he,hp]; exact c,by rw [he,hp]; exact d⟩
theorem jo.mayFrom {k:KK} (E:jo k):∀ (n:Nat) (es:List bk),k.events.drop n = es->∀ (tH:Int) (seen:List Int) (ends:List (Int × Int)),
  (∀ i e,i < n->k.events[i]? = some e->e.fRa <= tH\/n = 0)->(n = 0->tH = 0)->(0 < n->∃ e,k.events[n - 1]? = some e/\tH = e.fRa) ->
  (∀ x ∈ seen,∃ (i:Nat) (e:bk),i < n/\k.events[i]? = some e/\x = e.fHa) ->
  (∀ c v,Hist.endOf ends c = some v->∃ (i:Nat) (e:bk),i < n/\k.events[i]? = some e/\e.fQa = c/\v = e.fYa)->Hist.mayFrom k.p.s es tH seen ends = true
 | _,[],_,_,_,_,_,_,_,_,_=>rfl
 | n,e::es,hd,tH,seen,ends,h1,h2,h3,h4,h5=>by
  have hn:k.events[n]? = some e:=by
   have:=congrArg (fun l=>l[0]?) hd
   simpa using this
  have o:=E.one n e hn
  have hlast:tH < e.fRa:=by
   rcases Nat.eq_zero_or_pos n with h0 | h0
   ·rw [h2 h0]; have:=o.b0; omega
   ·obtain ⟨d,hd1,rfl⟩:=h3 h0
    exact E.up (n - 1) n d e (by omega) hd1 hn
  have hone:eE e k.p.s tH = true:=by
   unfold eE
   have c1:(((((decide (e.fQa < 0)) || (decide (e.fQa >= k.p.s.fWa))) || (decide (e.fCa < 0))) || (decide (e.fCa >= k.p.s.fIa))) || (decide (e.fRa <= tH))) = false:=by
    have:=o.c0; have:=o.c1; have:=o.v0; have:=o.v1
    simp; omega
   rw [c1]
   simp only [cond_false]
   rcases o.st with s | s
   ·simp [s.1,s.2]
   ·have hb:=o.b0
    have:(e.fHa == 0) = false:=by simp; omega
    rw [this]
    simp only [cond_false]
    simp; omega
  rw [Hist.mayFrom]
  rw [if_neg]
  ·rw [if_neg]
   ·refine jo.mayFrom E (n + 1) es ?_ e.fRa _ _ (fun i d hi hd1=>?_) (fun h=>by omega) (fun _=>⟨e,by simpa using hn,rfl⟩) (fun x hx=>?_) (fun c v hv=>?_)
    ·rw [← List.drop_drop,hd]; rfl
    ·left
     rcases lt_or_ge i n with h | h
     ·exact Int.le_of_lt (E.up i n d e h hd1 hn)
     ·have:i = n:=by omega
      subst this; rw [hn] at hd1; cases hd1; exact le_refl _
    ·rcases List.mem_cons.1 hx with rfl | hx
     ·exact ⟨n,e,by omega,hn,rfl⟩
     ·obtain ⟨i,d,a1,a2,a3⟩:=h4 x hx
      exact ⟨i,d,by omega,a2,a3⟩
    ·unfold Hist.endOf at hv
     rw [List.find?_cons] at hv
     by_cases hc:(e.fQa == c) = true
     ·rw [hc] at hv
      simp at hv
      exact ⟨n,e,by omega,hn,by simpa using hc,hv.symm⟩
     ·have hc':(e.fQa == c) = false:=by simpa using hc
      rw [hc'] at hv
      obtain ⟨i,d,a1,a2,a3⟩:=h5 c v hv
      exact ⟨i,d,by omega,a2,a3⟩
   ·unfold Hist.stops
    split
    ·rename_i v hv
     obtain ⟨i,d,a1,a2,a3,rfl⟩:=h5 _ _ hv
     have:=E.co i n d e a1 a2 hn a3
     simp; omega
    ·simp
  ·rintro (h | ⟨h,hm⟩)
   ·rw [hone] at h; cases h
   ·obtain ⟨i,d,a1,a2,a3⟩:=h4 _ hm
    have:=E.ef n i e d hn a2 h a3
    omega
theorem jo.may {k:KK} (E:jo k):Hist.may k.events k.p.s = true :=
 E.mayFrom 0 k.events rfl 0 [] [] (fun i e h=>by omega) (fun _=>rfl) (fun h=>by omega) (fun x hx=>by cases hx) (fun c v hv=>by cases hv)
theorem right_of {k:KK} {log:List Int} (E:jo k) (L:Log k log):fLa.right k.events k.p.s = true/\fLa.linear k.events k.p.s = (-1,true)/\fLa.accesses k.events k.p.s = (-1,true):=by
 have h:∀ a b,fLa.run k.events k.p.s a b = (-1,true):=fun a b=>by
  unfold fLa.run
  rw [if_pos E.may,← L.order E]
  exact fLa.run_good a b L.good
 refine ⟨?_,h true false,h false true⟩
 unfold fLa.right fLa.linear fLa.accesses
 rw [h,h]; rfl
end
section
open Go Mb
theorem ev_set {es:List bk} {n:Nat} {e0 e':bk} (h:es[n]? = some e0) (j:Int):fLa.ev (es.set n e') j = if j.toNat = n then e' else fLa.ev es j:=by
 have hlt:=(List.getElem?_eq_some_iff.1 h).1
 simp only [fLa.ev,getD_eq_getElem?_getD,getElem?_set]
 by_cases e:n = j.toNat
 ·rw [if_pos e,if_pos e.symm,if_pos hlt]; rfl
 ·rw [if_neg e,if_neg (fun x=>e x.symm)]
theorem Log.effect {k k':KK} {log:List Int} (L:Log k log) {n:Nat} {e0:bk} {a:dZ} {l:jp} (h0:k.events[n]? = some e0) (hz:e0.fHa = 0) (hlate:∀ (i:Nat) e,k.events[i]? = some e->e.fRa < k.now/\e.fHa < k.now) (hn:0 < k.now)
  (he:k'.events = k.events.set n (KK.evend e0 k.now a l)) (hs:k'.p.s = k.p.s) (hg:fLa.good k'.events k.p.s k.p n) (hj:fLa.jstep k'.events k.p.s k.p n = k'.p):Log k' (log++[(n:Int)]):=by
 have hlt:=(List.getElem?_eq_some_iff.1 h0).1
 have hev:=fun j=>ev_set (e':=KK.evend e0 k.now a l) h0 j
 have alike:∀ i ∈ log,fLa.Alike k.events k'.events i:=by
  intro i hi
  obtain ⟨m,e,g1,rfl,g2⟩:=(L.mem i).1 hi
  have hmn:m ≠ n:=by rintro rfl; rw [h0] at g1; cases g1; omega
  have hl:=hlate m e g1
  rw [he]
  refine ⟨by rw [hev,if_neg (by simpa using hmn)],?_,fun j _=>?_⟩
  ·rw [ev_get g1]
   unfold Hist.over Hist.places
   refine placesFrom_set _ _ _ e0 _ _ h0 ?_
   show (decide (e0.fRa <= e.fHa) && (k.now == 0 || decide (k.now > e.fHa))) = (decide (e0.fRa <= e.fHa) && (e0.fHa == 0 || decide (e0.fHa > e.fHa)))
   rw [hz,decide_eq_true (show k.now > e.fHa from hl.2)]
   simp
  ·rw [hev]
   split
   ·rename_i hjn
    have:fLa.ev k.events j = e0:=by simp [fLa.ev,hjn,h0]
    rw [this]; exact ⟨rfl,rfl⟩
   ·exact ⟨rfl,rfl⟩
 obtain ⟨g1,g2⟩:=fLa.Good_alike alike L.good
 have heff:∀ i,Hist.eff k'.events i = if i.toNat = n then k.now else Hist.eff k.events i:=by
  intro i
  have:=hev i
  show (fLa.ev k'.events i).fHa = _
  rw [he,this]
  split <;> rfl
 have hin:∀ i ∈ log,i.toNat ≠ n/\Hist.eff k.events i < k.now:=by
  intro i hi
  obtain ⟨m,e,g1,rfl,g2⟩:=(L.mem i).1 hi
  refine ⟨fun h=>?_,by rw [Hist.eff_nat g1]; exact (hlate m e g1).2⟩
  rw [toNat_natCast] at h
  subst h; rw [h0] at g1; cases g1; omega
 refine ⟨fun i=>?_,?_,?_,?_⟩
 ·rw [List.mem_append,List.mem_singleton,L.mem,he]
  constructor
  ·rintro (⟨m,e,a1,rfl,a2⟩ | rfl)
   ·have hmn:m ≠ n:=by rintro rfl; rw [h0] at a1; cases a1; omega
    exact ⟨m,e,by rw [getElem?_set,if_neg (fun h=>hmn h.symm)]; exact a1,rfl,a2⟩
   ·exact ⟨n,KK.evend e0 k.now a l,by rw [getElem?_set,if_pos rfl,if_pos hlt],rfl,hn⟩
  ·rintro ⟨m,e,a1,rfl,a2⟩
   rw [getElem?_set] at a1
   by_cases h:n = m
   ·exact .inr (by rw [h])
   ·rw [if_neg h] at a1; exact .inl ⟨m,e,a1,rfl,a2⟩
 ·refine List.pairwise_append.2 ⟨?_,List.pairwise_singleton _ _,fun x hx y hy=>?_⟩
  ·refine L.up.imp_of_mem fun {x y} hx hy hxy=>?_
   rw [heff,heff,if_neg (hin x hx).1,if_neg (hin y hy).1]; exact hxy
  ·rw [List.mem_singleton.1 hy,heff,heff,if_neg (hin x hx).1,if_pos (by simp)]
   exact (hin x hx).2
 ·rw [hs]
  refine fLa.Good_app g1 ?_
  rw [g2,L.run]; exact hg
 ·rw [hs,fLa.jrun_app,g2,L.run]; exact hj
theorem Log.begin {k:KK} {log:List Int} (L:Log k log) (E:jo k) {e0:bk} (hb:k.now < e0.fRa) (hz:e0.fHa = 0) {k':KK} (he:k'.events = k.events++[e0]) (hp:k'.p = k.p):Log k' log:=by
 have alike:∀ i ∈ log,fLa.Alike k.events k'.events i:=by
  intro i hi
  obtain ⟨m,e,g1,rfl,g2⟩:=(L.mem i).1 hi
  have hm:=(List.getElem?_eq_some_iff.1 g1).1
  have hev:∀ j:Int,0 <= j->j < k.events.length->fLa.ev (k.events++[e0]) j = fLa.ev k.events j:=by
   intro j h0 h1
   simp only [fLa.ev,getD_eq_getElem?_getD]
   rw [List.getElem?_append_left (by omega)]
  rw [he]
  refine ⟨hev _ (by omega) (by omega),?_,fun j hj=>?_⟩
  ·rw [ev_get g1]
   unfold Hist.over Hist.places
   rw [Hist.placesFrom_app,if_neg,List.append_nil]
   have o:=E.one m e g1
   have:e.fHa <= k.now:=by
    rcases o.st with s | s
    ·have:=o.b0; have:=o.b1; omega
    ·exact s.2.2
   simp; omega
  ·have:=Hist.places_in hj
   rw [hev j this.1 this.2]; exact ⟨rfl,rfl⟩
 obtain ⟨g1,g2⟩:=fLa.Good_alike alike L.good
 have heff:∀ i ∈ log,Hist.eff k'.events i = Hist.eff k.events i:=fun i hi=>by
  show (fLa.ev k'.events i).fHa = (fLa.ev k.events i).fHa
  rw [(alike i hi).e]
 refine ⟨fun i=>?_,L.up.imp_of_mem fun {x y} hx hy hxy=>by rw [heff x hx,heff y hy]; exact hxy,by rw [hp]; exact g1,by rw [hp,g2]; exact L.run⟩
 rw [L.mem,he]
 constructor
 ·rintro ⟨m,e,a1,rfl,a2⟩
  exact ⟨m,e,by rw [List.getElem?_append_left (List.getElem?_eq_some_iff.1 a1).1]; exact a1,rfl,a2⟩
 ·rintro ⟨m,e,a1,rfl,a2⟩
  rcases lt_or_ge m k.events.length with h | h
  ·rw [List.getElem?_append_left h] at a1; exact ⟨m,e,a1,rfl,a2⟩
  ·rw [List.getElem?_append_right h] at a1
   by_cases e1:m - k.events.length = 0
   ·rw [e1] at a1
    simp at a1
    rw [← a1] at a2; omega
   ·rw [List.getElem?_eq_none (by simp; omega)] at a1; cases a1
structure All (k:KK):Prop extends IE k where
 lg:∃ log,Log k log
theorem all_new {s:eK} (h:PK.sized s = true):All (KK.new s):=⟨ie_new h,[],log_new s⟩
theorem All.begin {k:KK} (A:All k) (hn:k.now < 2 ^ 40) (core env:Int) {c:cN} (cw:Cw c):All (KK.begin_ k core env c).2:=by
 refine ⟨A.toIE.begin hn core env cw,?_⟩
 obtain ⟨log,L⟩:=A.lg
 refine ⟨log,?_⟩
 have hw:=wrapN A.inv.ok.n0 hn
 unfold KK.begin_
 split
 ·exact L
 ·rw [hw]
  exact L.begin A.ev (e0:=KK.ev0 core env c (k.now + 1)) (by show k.now < k.now + 1; omega) rfl rfl rfl
theorem All.post {k:KK} (A:All k) (hn:k.now < 2 ^ 40) (c:Int):All (KK.post k c).2:=by
 have he:(KK.post k c).2.events = k.events/\(KK.post k c).2.p = k.p:=by
  unfold KK.post
  split
  ·exact ⟨rfl,rfl⟩
  ·split <;> exact ⟨rfl,rfl⟩
 obtain ⟨log,L⟩:=A.lg
 exact ⟨A.toIE.post hn c,log,L.same he.1 he.2⟩
theorem All.tick {k:KK} (A:All k) (hn:k.now < 2 ^ 40):All (KK.tick k):=by
 obtain ⟨log,L⟩:=A.lg
 exact ⟨⟨A.inv.tick hn,tick_ev A.inv.ok A.ev hn⟩,log,L.same rfl rfl⟩
theorem work_log {k:KK} (A:All k) (hlate:∀ (i:Nat) e,k.events[i]? = some e->e.fRa < k.now/\e.fHa < k.now) (hn0:0 < k.now) {c:Nat} {x:KC} (hx:KK.call k c = some x) (hi:KK.is k c = true):∃ log,Log (KK.work k c x) log:=by
 have hc:c < k.calls.length:=by obtain ⟨n,e,h⟩:=kq hi; omega
 have hcx:=qe hx
 obtain ⟨log,L⟩:=A.lg
 obtain ⟨n,hn,e0,g1,g2,g3,g4,g5⟩:=A.ev.call c x hcx
 have setev:∀ (m:KK) (a:dZ) (l:jp),m.events = k.events->m.now = k.now->(KK.ends m c x a l).events = k.events.set n (KK.evend e0 k.now a l):=by
  intro m a l h1 h2
  unfold KK.ends
  rw [h1,h2,hn]
  simp only [toNat_natCast,getD_eq_getElem?_getD,g1,getD_some]
 have hev:∀ a l,fLa.ev (k.events.set n (KK.evend e0 k.now a l)) n = KK.evend e0 k.now a l:=fun a l=>by rw [ev_set g1,if_pos (by simp)]
 have juser:∀ a l,fw (KK.evend e0 k.now a l) = bF (ax x.fc).1:=fun a l=>by
  unfold fw
  show bF (ax e0.fKa).1 = _
  rw [g4]
 unfold KK.work
 by_cases hu:bF (ax x.fc).1 = true
 ·rw [if_pos hu]
  obtain ⟨h1,h2,h3,_,_⟩:=access_keep k c x
  have he:=setev (KK.access k c x).2 (KK.access k c x).1.1 (KK.access k c x).1.2 h1 h2
  refine ⟨log++[(n:Int)],?_⟩
  have ag:=access_good A.inv hc hcx hu (es:=k.events.set n (KK.evend e0 k.now (KK.access k c x).1.1 (KK.access k c x).1.2)) (e:=KK.evend e0 k.now (KK.access k c x).1.1 (KK.access k c x).1.2) g4 g3 rfl rfl ?_
  ·refine L.effect g1 g5 hlate hn0 he h3 ?_ ?_
   ·rw [he]
    unfold fLa.good
    rw [hev,juser,hu]
    exact ⟨fun _=>ag.1,fun h=>(by cases h)⟩
   ·rw [he]
    unfold fLa.jstep
    rw [hev,juser,if_pos hu]
    exact ag.2
  ·rintro d y ⟨hy,hty⟩
   obtain ⟨m,hm,ey,f1,f2,f3,f4,f5⟩:=A.ev.call d y hy
   have hmn:m ≠ n:=by
    rintro rfl
    rw [g1] at f1
    cases f1
    have:d = c:=by omega
    subst this
    rw [hcx] at hy
    cases hy
    have T:=A.inv.teller ⟨hcx,hty⟩
    have w:=tM A.inv.en.1 A.inv.en.2 T.k
    have ht:=T.t
    rw [vO w.kind] at hu
    unfold bF at hu
    unfold Tk at ht
    simp at hu
    omega
   have hge:(k.events.set n (KK.evend e0 k.now (KK.access k c x).1.1 (KK.access k c x).1.2))[m]? = some ey:=by rw [getElem?_set,if_neg (fun h=>hmn h.symm)]; exact f1
   rw [hm]
   refine ⟨?_,?_,?_⟩
   ·unfold Hist.over
    rw [Hist.mem_places]
    refine ⟨m,ey,hge,rfl,?_⟩
    have:=(hlate m ey f1).1
    show (decide (ey.fRa <= k.now) && (ey.fHa == 0 || decide (ey.fHa > k.now))) = true
    rw [f5]; simp; omega
   ·rw [ev_get hge]; exact f4
   ·rw [ev_get hge]; exact f3
 ·rw [if_neg hu]
  have hu':bF (ax x.fc).1 = false:=by simpa using hu
  split
  ·exact ⟨log,L.same rfl rfl⟩
  ·split
   ·exact ⟨log,L⟩
   ·split
    ·rename_i hdone
     have he:=setev { k with p:=(PK.do_ k.p x.fGa x.fc).2 } (PK.do_ k.p x.fGa x.fc).1.1 jJ rfl rfl
     refine ⟨log++[(n:Int)],L.effect g1 g5 hlate hn0 he (do_s _ _ _) ?_ ?_⟩
     ·rw [he]
      unfold fLa.good
      rw [hev,juser,hu']
      refine ⟨fun h=>(by cases h),fun _=>?_⟩
      show (PK.do_ k.p e0.fCa e0.fKa).1.2 = true/\(PK.do_ k.p e0.fCa e0.fKa).1.1 = (PK.do_ k.p x.fGa x.fc).1.1
      rw [g3,g4]
      exact ⟨hdone,rfl⟩
     ·rw [he]
      unfold fLa.jstep
      rw [hev,juser,if_neg hu]
      show (PK.do_ k.p e0.fCa e0.fKa).2 = (PK.do_ k.p x.fGa x.fc).2
      rw [g3,g4]
    ·rename_i hdone
     rw [do_wait (by simpa using hdone)]
     exact ⟨log,L⟩
theorem All.step {k:KK} (A:All k) (hn:k.now < 2 ^ 40) (c:Int):All (KK.step k c).2:=by
 refine ⟨A.toIE.step hn c,?_⟩
 unfold KK.step
 split
 ·exact A.lg
 ·rename_i hb
  obtain ⟨hi,x,hx⟩:=busy_is (by simpa using hb)
  rw [hx]
  obtain ⟨n,rfl,_⟩:=kq hi
  have h0:=A.inv.ok.n0
  exact work_log (A.tick hn) (tick_late A.inv.ok A.ev hn) (by rw [tick_now A.inv.ok hn]; omega) hx hi
theorem All.right {k:KK} (A:All k):fLa.right k.events k.p.s = true/\fLa.linear k.events k.p.s = (-1,true)/\fLa.accesses k.events k.p.s = (-1,true):=by
 obtain ⟨log,L⟩:=A.lg
 exact right_of A.ev L
end
section
open Go Mb
namespace KK
def lastE (c:Int):List bk->bk->bk
 | [],e=>e
 | x::es,e=>lastE c es (if x.fQa = c then x else e)
def tH (k:KK) (c:Int):bk:=lastE c k.events ⟨0,0,⟨0,0,0,0,0⟩,0,0,0,⟨0,0⟩,⟨0,0,0,0⟩⟩
end KK
end
section
open Go Mb
inductive Stp (k:KK) (c:Nat) (x:KC) (k':KK):Prop
 | wait (y:KC) (he:k'.events = k.events) (hp:k'.p = k.p) (hc:k'.calls = k.calls.set c (some y)) (h1:y.fc = x.fc) (h2:y.fGa = x.fGa) (h3:y.fat = x.fat)
 | user (m:Nat) (e0:bk) (h0:k.events[m]? = some e0) (hm:x.fat = (m:Nat)) (hz:e0.fHa = 0) (hcl:e0.fKa = x.fc) (hen:e0.fCa = x.fGa) (hco:e0.fQa = c) (hu:bF (ax x.fc).1 = true)
   (he:k'.events = k.events.set m (KK.evend e0 (k.now + 1) (KK.access (KK.tick k) c x).1.1 (KK.access (KK.tick k) c x).1.2)) (hp:k'.p = (KK.access (KK.tick k) c x).2.p) (hc:k'.calls = k.calls.set c none)
 | does (m:Nat) (e0:bk) (h0:k.events[m]? = some e0) (hm:x.fat = (m:Nat)) (hz:e0.fHa = 0) (hcl:e0.fKa = x.fc) (hen:e0.fCa = x.fGa) (hco:e0.fQa = c) (hu:bF (ax x.fc).1 = false)
   (he:k'.events = k.events.set m (KK.evend e0 (k.now + 1) (PK.do_ k.p x.fGa x.fc).1.1 jJ)) (hp:k'.p = (PK.do_ k.p x.fGa x.fc).2) (hc:k'.calls = k.calls.set c none)
theorem set_some {α:Type} {l:List (Option α)} {c:Nat} {x:α} (h:l[c]? = some (some x)):l = l.set c (some x):=by
 refine List.ext_getElem? fun i=>?_
 rw [getElem?_set]
 split
 ·rename_i e; subst e
  rw [if_pos (List.getElem?_eq_some_iff.1 h).1,h]
 ·rfl
theorem step_stp {k:KK} (A:IE k) (hn:k.now < 2 ^ 40) {c:Nat} {x:KC} (hx:k.calls[c]? = some (some x)):Stp k c x (KK.step k c).2:=by
 have hc:=(List.getElem?_eq_some_iff.1 hx).1
 obtain ⟨m,hm,e0,g1,g2,g3,g4,g5⟩:=A.ev.call c x hx
 have hi:KK.is k c = true:=by unfold KK.is; exact decide_eq_true (by omega)
 have hcall:KK.call k c = some x:=by unfold KK.call; rw [toNat_natCast,getD_eq_getElem?_getD,hx]; rfl
 have hb:KK.busy k c = true:=by unfold KK.busy; rw [hi,hcall]; rfl
 have hnow:=tick_now A.inv.ok hn
 have hst:(KK.step k c).2 = KK.work (KK.tick k) c x:=by
  unfold KK.step
  rw [if_neg (by rw [hb]; simp),hcall]
 have hcn:((c:Int)).toNat = c:=toNat_natCast c
 rw [hst]
 have setev:∀ (q:KK) (a:dZ) (l:jp),q.events = k.events->q.now = k.now + 1->(KK.ends q c x a l).events = k.events.set m (KK.evend e0 (k.now + 1) a l):=by
  intro q a l h1 h2
  unfold KK.ends
  rw [h1,h2,hm]
  simp only [toNat_natCast,getD_eq_getElem?_getD,g1,getD_some]
 unfold KK.work
 by_cases hu:bF (ax x.fc).1 = true
 ·rw [if_pos hu]
  obtain ⟨h1,h2,h3,h4,_⟩:=access_keep (KK.tick k) c x
  refine .user m e0 g1 hm g5 g4 g3 g2 hu (setev _ _ _ h1 (by rw [h2,hnow])) rfl ?_
  show (KK.access (KK.tick k) c x).2.calls.set (c:Int).toNat none = _
  rw [h4,hcn]; rfl
 ·rw [if_neg hu]
  have hu':bF (ax x.fc).1 = false:=by simpa using hu
  split
  ·refine .wait { x with fPa:=true,fAb:=(fMa.begin_ (KK.tick k).fFa c).1.1 } rfl rfl ?_ rfl rfl rfl
   show (k.calls.set (c:Int).toNat _).set (c:Int).toNat _ = _
   rw [hcn,List.set_set]; rfl
  ·split
   ·exact .wait x rfl rfl (set_some hx) rfl rfl rfl
   ·split
    ·refine .does m e0 g1 hm g5 g4 g3 g2 hu' (setev _ _ _ rfl hnow) rfl ?_
     show k.calls.set (c:Int).toNat none = _
     rw [hcn]
    ·rename_i hd
     refine .wait x rfl ?_ (set_some hx) rfl rfl rfl
     show (PK.do_ k.p x.fGa x.fc).2 = k.p
     exact do_wait (by have h2:¬ (PK.do_ k.p x.fGa x.fc).1.2 = true:=hd; simpa using h2)
theorem step_not {k:KK} {c:Int} (h:KK.busy k c = false):(KK.step k c).2 = k:=by unfold KK.step; rw [if_pos h]
theorem step_or {k:KK} (A:IE k) (hn:k.now < 2 ^ 40) (c:Int):(KK.step k c).2 = k\/∃ (d:Nat) (x:KC),c = d/\k.calls[d]? = some (some x)/\Stp k d x (KK.step k c).2:=by
 cases hb:KK.busy k c with
 | false=>exact .inl (step_not hb)
 | true =>
  obtain ⟨hi,x,hx⟩:=busy_is hb
  obtain ⟨n,rfl,_⟩:=kq hi
  exact .inr ⟨n,x,rfl,qe hx,step_stp A hn (qe hx)⟩
theorem post_same (k:KK) (c:Int):(KK.post k c).2.events = k.events/\(KK.post k c).2.p = k.p/\(KK.post k c).2.calls = k.calls:=by
 unfold KK.post
 split
 ·exact ⟨rfl,rfl,rfl⟩
 ·split <;> exact ⟨rfl,rfl,rfl⟩
theorem begin_or {k:KK} (A:IE k) (hn:k.now < 2 ^ 40) (core env:Int) (c:cN):((KK.begin_ k core env c).1 = false/\(KK.begin_ k core env c).2 = k) \/
  ((KK.begin_ k core env c).1 = true/\∃ d:Nat,core = d/\d < k.calls.length/\k.calls[d]? = some none/\0 <= env/\env < k.p.s.fIa/\(KK.begin_ k core env c).2.events = k.events++[KK.ev0 core env c (k.now + 1)]/\(KK.begin_ k core env c).2.p = k.p/\(KK.begin_ k core env c).2.calls = k.calls.set d (some ⟨k.events.length,env,c,false,0⟩)/\(KK.begin_ k core env c).2.fFa = k.fFa):=by
 have hw:=wrapN A.inv.ok.n0 hn
 unfold KK.begin_
 split
 ·exact .inl ⟨rfl,rfl⟩
 ·rename_i h
  simp only [not_or,Bool.not_eq_true,Bool.not_eq_false] at h
  obtain ⟨h1,h2,h3,h4⟩:=h
  obtain ⟨d,rfl,hd⟩:=kq h1
  refine .inr ⟨rfl,d,rfl,hd,?_,by omega,by omega,by rw [hw],rfl,by rw [toNat_natCast],rfl⟩
  cases hc:k.calls[d]? with
  | none=>rw [List.getElem?_eq_none_iff] at hc; omega
  | some o =>
   cases o with
   | none=>rfl
   | some x =>
    have:KK.busy k d = true:=(busy_nat hd).2 ⟨x,hc⟩
    rw [this] at h2; cases h2
theorem begin_does {k:KK} {c env:Int} {x:cN} (h1:KK.is k c = true) (h2:KK.busy k c = false) (h3:0 <= env) (h4:env < k.p.s.fIa):(KK.begin_ k c env x).1 = true:=by
 unfold KK.begin_
 rw [if_neg]
 rintro (h | h | h | h)
 ·rw [h1] at h; cases h
 ·rw [h2] at h; cases h
 ·omega
 ·omega
theorem access_or {k:KK} (I:fh k) {c:Nat} (hc:c < k.calls.length) {x:KC} (hw:Word.check x.fc k.p.s.fIa = 0) (hkind:20 <= i64.wrap x.fc.e0/\i64.wrap x.fc.e0 <= 23) :
  ((KK.access k c x).1.1 = ⟨7,0⟩/\(KK.access k c x).2.p = k.p/\(KK.fBb k c x).1.2 = false) \/
  ∃ l:jp,Cov (PK.q k.p x.fGa (i64.wrap x.fc.e1)) l/\cq l.fBa (i64.wrap x.fc.e0) = true/\(KK.access k c x).1.1 = (PK.touch k.p (PK.q k.p x.fGa (i64.wrap x.fc.e1)).fEa x.fc).1.1/\(KK.access k c x).2.p = (PK.touch k.p (PK.q k.p x.fGa (i64.wrap x.fc.e1)).fEa x.fc).2:=by
 unfold KK.access
 rw [if_neg (by rw [hw]; simp)]
 cases hf:(KK.fBb k c x).1.2 with
 | false=>exact .inl ⟨rfl,rfl,rfl⟩
 | true =>
  obtain ⟨h1,_,_,h4⟩:=walk_cov I hc hf hkind
  rw [if_neg (by simp)]
  refine .inr ⟨_,h1,h4,?_,?_⟩
  ·show (PK.touch k.p (KK.fBb k c x).1.1.fEa x.fc).1.1 = _
   rw [h1.f]
  ·show (PK.touch k.p (KK.fBb k c x).1.1.fEa x.fc).2 = _
   rw [h1.f]
theorem step_ep {k:KK} (A:IE k) (hn:k.now < 2 ^ 40) (c:Int):(KK.step k c).2.fFa.1.length <= k.fFa.1.length + 1:=by
 cases hb:KK.busy k c with
 | false=>rw [step_not hb]; exact Nat.le_succ _
 | true =>
  obtain ⟨hi,x,hx⟩:=busy_is hb
  obtain ⟨n,rfl,hl⟩:=kq hi
  obtain ⟨S,_⟩:=step_stepped A.inv hl (qe hx)
  obtain ⟨m,h1,h2⟩:=S.own
  rw [h1,length_append]; omega
theorem begin_ep (k:KK) (core env:Int) (c:cN):(KK.begin_ k core env c).2.fFa = k.fFa:=by
 unfold KK.begin_
 split <;> rfl
theorem lines_len {k:KK} (A:fh k) {c:Nat} (hc:c < k.calls.length):(KK.lines k c).length = 8:=by
 unfold KK.lines
 rw [if_pos (by unfold KK.is; exact decide_eq_true (by omega)),kbuf_nat]
 have:=(A.tok c hc).len
 unfold Tlb.lines
 simpa using this
theorem tick_p (k:KK):(KK.tick k).p = k.p:=rfl
structure Usr (fc:cN) (n:Int):Prop where
 chk:Word.check fc n = 0
 usr:bF (ax fc).1 = true
 kind:20 <= i64.wrap fc.e0/\i64.wrap fc.e0 <= 23
 cw:Cw fc
 n9:fc.e0 ≠ 9
structure Lone (i:Nat) (core a:Int) (fc:cN) (p0:PK) (k:KK):Prop extends All k where
 pe:k.p = p0
 q0:(PK.q p0 a (i64.wrap fc.e1)).fBa = 0
 call:∀ (d:Nat) x,k.calls[d]? = some (some x)->x.fc = fc/\x.fGa = a
 len:k.events.length = i + 1
 le:∃ e,k.events[i]? = some e/\e.fQa = core/\(e.fHa ≠ 0->e.fVa = ⟨7,0⟩)
theorem Lone.post {i:Nat} {core a:Int} {fc:cN} {p0:PK} {k:KK} (L:Lone i core a fc p0 k) (hn:k.now < 2 ^ 40) (c:Int):Lone i core a fc p0 (KK.post k c).2:=by
 obtain ⟨h1,h2,h3⟩:=post_same k c
 exact ⟨L.toAll.post hn c,by rw [h2]; exact L.pe,L.q0,by rw [h3]; exact L.call,by rw [h1]; exact L.len,by rw [h1]; exact L.le⟩
theorem lT {l:List (Option KC)} {c:Nat} {o:Option KC} {P:Nat->KC->Prop} (h:∀ (d:Nat) x,l[d]? = some (some x)->P d x) (ho:∀ x,o = some x->P c x):∀ (d:Nat) x,(l.set c o)[d]? = some (some x)->P d x:=by
 intro d x hd
 rw [getElem?_set] at hd
 split at hd
 ·rename_i e; subst e
  split at hd
  ·simp only [Option.some.injEq] at hd
   exact ho x hd
  ·cases hd
 ·exact h d x hd
theorem Lone.step {i:Nat} {core a:Int} {fc:cN} {p0:PK} {k:KK} (U:Usr fc p0.s.fIa) (L:Lone i core a fc p0 k) (hn:k.now < 2 ^ 40) (c:Int):Lone i core a fc p0 (KK.step k c).2:=by
 rcases step_or L.toIE hn c with h | ⟨d,x,rfl,hx,st⟩
 ·rw [h]; exact L
 have hA:=L.toAll.step hn d
 obtain ⟨hc1,hc2⟩:=L.call d x hx
 have hdl:=(List.getElem?_eq_some_iff.1 hx).1
 cases st with
 | wait y he hp' hc h1 h2 h3 =>
  refine ⟨hA,by rw [hp']; exact L.pe,L.q0,?_,by rw [he]; exact L.len,by rw [he]; exact L.le⟩
  rw [hc]
  refine lT (P:=fun _ x=>x.fc = fc/\x.fGa = a) L.call fun z hz=>?_
  cases hz
  exact ⟨by rw [h1]; exact hc1,by rw [h2]; exact hc2⟩
 | user m e0 h0 hm hz hcl hen hco hu he hp' hc =>
  have I:=L.inv.tick hn
  have ac:=access_or I (c:=d) (by exact hdl) (x:=x) (by rw [hc1]; show Word.check fc k.p.s.fIa = 0; rw [L.pe]; exact U.chk) (by rw [hc1]; exact U.kind)
  have hans:(KK.access (KK.tick k) d x).1.1 = ⟨7,0⟩/\(KK.access (KK.tick k) d x).2.p = k.p:=by
   rcases ac with h | ⟨l,h1,_⟩
   ·exact ⟨h.1,h.2.1⟩
   ·rw [hc1,hc2] at h1
    have h2:=h1.r
    have h3:=L.q0
    rw [tick_p,L.pe] at h2
    omega
  refine ⟨hA,by rw [hp',hans.2]; exact L.pe,L.q0,?_,by rw [he,List.length_set]; exact L.len,?_⟩
  ·rw [hc]
   exact lT (P:=fun _ x=>x.fc = fc/\x.fGa = a) L.call fun z hz=>by cases hz
  ·obtain ⟨e,g1,g2,g3⟩:=L.le
   rw [he]
   by_cases hmi:m = i
   ·subst hmi
    rw [h0] at g1
    cases g1
    refine ⟨KK.evend e0 (k.now + 1) (KK.access (KK.tick k) d x).1.1 (KK.access (KK.tick k) d x).1.2,?_,g2,fun _=>hans.1⟩
    rw [getElem?_set,if_pos rfl,if_pos (List.getElem?_eq_some_iff.1 h0).1]
   ·exact ⟨e,by rw [getElem?_set,if_neg hmi]; exact g1,g2,g3⟩
 | does m e0 h0 hm hz hcl hen hco hu he hp' hc =>
  rw [hc1,U.usr] at hu
  cases hu
structure Rest (s:eK) (n:Int) (m:Nat) (k:KK):Prop extends All k where
 sz:k.p.s = s
 idle:∀ (d:Nat) x,k.calls[d]? ≠ some (some x)
 now:k.now <= n
 ep:k.fFa.1.length <= m
theorem lastA_at {core:Int} {es:List bk} {i:Nat} {e:bk} (hl:es.length = i + 1) (h:es[i]? = some e) (hc:e.fQa = core):KK.lastA core es es.length = (e.fVa,decide (e.fYa > 0)):=by
 rw [hl,KK.lastA,h]
 simp only [hc,if_true]
theorem run_closed {P:KK->Prop} (hP:Closed P) {s:eK} {n:Int} {m:Nat} {k:KK} (R:Rest s n m k) (hn:n < 2 ^ 33) (hm:m <= 4800) {c:Nat} (hc:c < k.calls.length) {a:Int} (ha:0 <= a/\a < s.fIa) {fc:cN} (h9:fc.e0 ≠ 9)
  (B:∀ q,q = (KK.begin_ k c a fc).2->q.events = k.events++[KK.ev0 c a fc (k.now + 1)]->q.p = k.p->q.calls = k.calls.set c (some ⟨k.events.length,a,fc,false,0⟩)->P q) :
  ∃ q,(KK.run k c a fc).2 = q/\P q/\(KK.run k c a fc).1 = KK.lastA c q.events q.events.length/\(∀ (d:Nat) x,q.calls[d]? ≠ some (some x))/\q.now <= n + 120100/\q.fFa.1.length <= m + 24/\q.calls.length = k.calls.length:=by
 have hnow:=R.now
 have hep:=R.ep
 have hb:=KK.begin_now R.inv.ok.n0 (by omega) c a fc
 have hcl:=R.inv.ok.cl
 have h88:=fB.1 R.inv.ok.p.sz
 have h1:KK.is k c = true:=by unfold KK.is; exact decide_eq_true (by omega)
 have h2:KK.busy k c = false:=by
  cases hb:KK.busy k c with
  | false=>rfl
  | true=>obtain ⟨x,hx⟩:=(busy_nat hc).1 hb; exact absurd hx (R.idle c x)
 have hdo:=begin_does h1 h2 ha.1 (by rw [R.sz]; exact ha.2) (x:=fc)
 rcases begin_or R.toIE (by omega) c a fc with ⟨h,_⟩ | ⟨_,d,hd,hdl,hno,_,_,he,hp,hcs,hepo⟩
 ·rw [hdo] at h; cases h
 have hdc:d = c:=by omega
 subst hdc
 have A:=B _ rfl he hp hcs
 have hcl2:(KK.begin_ k d a fc).2.calls.length = k.calls.length:=by rw [hcs,List.length_set]
 have S:=sT (m:=997) hP (cores:=8) A (by rw [hcl2]; omega) (Nat.le_refl _) (by rw [hepo]; omega) (by omega) (by
  rw [hcs]
  exact lT (P:=fun _ x=>x.fc.e0 ≠ 9) (fun d x h=>absurd h (R.idle d x)) fun x hx=>by cases hx; exact h9)
 rw [show (997 + 3:Nat) = 1000 from rfl] at S
 obtain ⟨S1,S2⟩:=S
 have hrun:KK.run k d a fc = (KK.lastA d (KK.settle 8 1000 (KK.begin_ k d a fc).2).2.events (KK.settle 8 1000 (KK.begin_ k d a fc).2).2.events.length,(KK.settle 8 1000 (KK.begin_ k d a fc).2).2):=by
  unfold KK.run
  rw [if_neg (by rw [hdo]; simp),if_neg (by rw [S1]; simp)]
 refine ⟨(KK.settle 8 1000 (KK.begin_ k d a fc).2).2,by rw [hrun],S2.all,by rw [hrun],S2.idle,?_,?_,?_⟩
 ·have:=S2.now; omega
 ·have:=S2.own; rw [hepo] at this; omega
 ·rw [S2.len,hcl2]
end
section
open Go Mb
theorem all_close:Closed All:=⟨fun A=>A.inv,fun A hn c=>A.post hn c,fun A hn c=>A.step hn c⟩
structure Calm (i:Nat) (k:KK):Prop extends All k where
 idle:∀ (d:Nat) x,k.calls[d]? ≠ some (some x)
 now:k.now <= i * 120100
 ep:k.fFa.1.length <= 24 * i
theorem calm_new {s:eK} (h:PK.sized s = true):Calm 0 (KK.new s):=⟨all_new h,fun d x e=>absurd e (rY s d x),le_refl _,Nat.le_refl _⟩
theorem Calm.run {i:Nat} {k:KK} (C:Calm i k) (hi:i <= 100) (core env:Int) {c:cN} (cw:Cw c) (h9:c.e0 ≠ 9):Calm (i + 1) (KK.run k core env c).2:=by
 have hnow:=C.now
 have hep:=C.ep
 have hii:(i:Int) * 120100 <= 100 * 120100:=by omega
 have B:=C.toAll.begin (by omega) core env cw
 have hb:=KK.begin_now C.inv.ok.n0 (by omega) core env c
 have h8:=B.inv.ok.cl
 have h88:=fB.1 B.inv.ok.p.sz
 have he:(KK.begin_ k core env c).2.fFa = k.fFa/\(∀ (d:Nat) x,(KK.begin_ k core env c).2.calls[d]? = some (some x)->x.fc.e0 ≠ 9)/\((KK.begin_ k core env c).1 = false->(KK.begin_ k core env c).2 = k):=by
  unfold KK.begin_
  split
  ·exact ⟨rfl,fun d x h=>absurd h (C.idle d x),fun _=>rfl⟩
  ·refine ⟨rfl,fun d x h=>?_,fun h=>by cases h⟩
   have h':(k.calls.set core.toNat (some ⟨k.events.length,env,c,false,0⟩))[d]? = some (some x):=h
   rw [getElem?_set] at h'
   split at h'
   ·split at h'
    ·simp only [Option.some.injEq] at h'
     rw [← h']; exact h9
    ·cases h'
   ·exact absurd h' (C.idle d x)
 have S:=sT (m:=997) all_close (cores:=8) B (by omega) (Nat.le_refl _) (by rw [he.1]; omega) (by omega) he.2.1
 have S:=S.2
 rw [show (997 + 3:Nat) = 1000 from rfl] at S
 have D:Calm (i + 1) (KK.settle 8 1000 (KK.begin_ k core env c).2).2:=by
  have h1:=S.now
  have h2:=S.own
  rw [he.1] at h2
  exact ⟨S.all,S.idle,by omega,by omega⟩
 unfold KK.run
 split
 ·rename_i hf
  dsimp only
  rw [he.2.2 hf]
  exact ⟨C.toAll,C.idle,by omega,by omega⟩
 ·split
  ·dsimp only; exact D
  ·dsimp only; exact D
end
section
open Go Mb
def errors_as_l2 (a1:Value) (a2:aL) (a3:Value) (K:Bool->Hp->Prop) (v48:Sl) (Rec25:Int->Hp->Prop) (s24:Int):Hp->Prop:=br (decide (s24 < (v48.len:Int))) ( ix v48 s24 fun q52=>ld (q52.1,q52.2 + Int.toNat s24 * 1) cV fun x53=>hpv prog (do eqGuard .eql 199 (.tmp 54) (.const Value.nilIface) x53 Value.nilIface; binOp .eql 199 x53 Value.nilIface:Sem Value) aB fun (v55:Bool)=>br v55 ( Rec25 (i64.wrap (s24 + 1))) ( cl prog uu [x53,a1,(.agg (aL.C a2).toArray),a3] aB fun r60=>br r60 ( K true) ( Rec25 (i64.wrap (s24 + 1))))) ( K false)
def xu (a1:Value) (a2:aL) (a3:Value) (K:Bool->Hp->Prop) (Rec2:Value->Hp->Prop) (s1:Value) (s11:Unit):Hp->Prop:=hpv prog (Instr.typeAssert s1 gq jf true) gm fun (v37:Value × Bool)=>br v37.2 ( cln prog (callMethod v37.1 "Unwrap" #[]) encV fun (v41:Value)=>hpv prog (do eqGuard .eql 199 (.tmp 42) (.const Value.nilIface) v41 Value.nilIface; binOp .eql 199 v41 Value.nilIface:Sem Value) aB fun (v43:Bool)=>br v43 ( K false) ( Rec2 v41)) ( hpv prog (Instr.typeAssert s1 gq iw true) fW fun (v44:Value × Bool)=>br v44.2 ( cln prog (callMethod v44.1 "Unwrap" #[]) R_Serror fun (v48:Sl)=>Lp (errors_as_l2 a1 a2 a3 K v48) 0) ( K false))
def xt (a1:Value) (a2:aL) (a3:Value) (K:Bool->Hp->Prop) (Rec2:Value->Hp->Prop) (s1:Value):Hp->Prop:=cln prog (callFunc ge #[s1]) encV fun (v17:Value)=>cln prog (callMethod v17 "AssignableTo" #[a3]) aB fun (v19:Bool)=>br v19 ( cln prog (callFunc ft #[(.agg (aL.C a2).toArray)]) fD fun (v21:aL)=>cln prog (callFunc cX #[s1]) fD fun (v23:aL)=>cln prog (callFunc fz #[(.agg (aL.C v21).toArray),(.agg (aL.C v23).toArray)]) R_ fun (v24:Unit)=>K true) ( hpv prog (Instr.typeAssert s1 gq qD true) nC fun (v27:Value × Bool)=>br v27.2 ( cln prog (callMethod v27.1 "As" #[a1]) aB fun (v34:Bool)=>br v34 ( K true) ( xu a1 a2 a3 K Rec2 s1 ())) ( xu a1 a2 a3 K Rec2 s1 ()))
def sh_errors_as (a0:Value) (a1:Value) (a2:aL) (a3:Value) (K:Bool->Hp->Prop):Hp->Prop:=Lp (xt a1 a2 a3 K) a0
theorem sim_errors_as (a0:Value) (a1:Value) (a2:aL) (a3:Value) {K:Bool->Hp->Prop} {h:Hp} (H:sh_errors_as a0 a1 a2 a3 K h):cl prog uu [a0,a1,(.agg (aL.C a2).toArray),a3] aB K h:=z_i func232 p p fun _=>O<|aa<|cK (l:=aL.C a2) p p p fun b6=>U p<|az<|bC (step:=xt a1 a2 a3 K) (fun s1=>[(0,s1),(1,a1),(3,a3),(6,(.pointer (some ⟨b6,0,none⟩)))]) (fun s1=>[bx b6 296 (aL.C a2)]) H (.cons p<|.cons p<|.cons p<|.cons p<|.nil _) (.cons_cons _ .slnil) fun Rec2 s1 _ H3=>az<|am<|O<|M p<|aa<|gb H3 (rP (vs:=[s1]) p) p fun v17 _ H4=>M p<|aa<|gb H4 (ga (vs:=[a3]) p p) p fun v19 _ H5=>ae<|aw p H5 (fun k6 H7=>O<|bi (bD (k:=0) ag_296 p p p p) p<|aa<|gb H7 (rP (vs:=[(.agg (aL.C a2).toArray)]) p) p fun v21 _ H8=>M p<|aa<|gb H8 (rP (vs:=[s1]) p) p fun v23 _ H9=>aa<|gb H9 (rP (vs:=[(.agg (aL.C v21).toArray),(.agg (aL.C v23).toArray)]) p) p fun v24 _ H10=>ae<|O<|U p<|ak<|Z ⟨true,p,H10⟩) fun k6 H7=>ap<|eq (xu a1 a2 a3 K Rec2 s1) (fun s11=>[(0,s1),(1,a1),(3,a3),(6,(.pointer (some ⟨b6,0,none⟩)))]) (fun s11=>[bx b6 296 (aL.C a2)]) (O<|M p<|aa<|aS H7 (fY p) p fun v27 _ H39=>M p<|J (al p p)<|J (al p p)<|J (av p)<|U p<|O<|M p<|M p<|W p p (ay _) (fun g40=>wv<|aj p)<|W p p (ay _) (fun g41=>wv<|aj p)<|bU H39 (fun k43 H44=>G (F k43)<|gb H44 (ga (vs:=[a1]) (aC p k43)<|aR (aC p k43) bO) p fun v34 _ H45=>J (aT p k43 p)<|ae<|aw p H45 (fun k46 H47=>O<|U p<|ak<|Z ⟨true,p,H47⟩) fun k46 H47=>ap<|cF () H47 (.cons p<|.cons p<|.cons p<|.cons p<|.nil _)<|.cons_cons _ .slnil) fun k43 H44=>Y (aU k43)<|J (au p k43 p)<|ae<|ev_no p p<|ap<|cF () H44 (.cons p<|.cons p<|.cons p<|.cons p<|.nil _)<|.cons_cons _ .slnil) fun s11 _ H12=>O<|M p<|ae<|az<|O<|aa<|aS H12 (fY p) p fun v37 _ H13=>J (al p p)<|J (al p p)<|ae<|aw p H13 (fun k14 H15=>O<|U p<|O<|M p<|aa<|gb H15 (ga (vs:=[]) p p) p fun v41 _ H16=>U p<|O<|M p<|aa<|aS H16 (gn p p) p fun v43 _ H17=>ae<|aw p H17 (fun k18 H19=>O<|U p<|ak<|Z ⟨false,p,H19⟩) fun k18 H19=>ap<|cL v41 H19 (.cons p<|.cons p<|.cons p<|.cons p<|.nil _)<|.cons_cons _ .slnil) fun k14 H15=>O<|aa<|aS H15 (fY p) p fun v44 _ H20=>J (al p p)<|J (al p p)<|ae<|aw p H20 (fun k21 H22=>O<|U p<|am<|O<|M p<|aa<|gb H22 (ga (vs:=[]) p p) p fun v48 _ H23=>J (dv p underlying280 p)<|M p<|ae<|az<|bC (step:=errors_as_l2 a1 a2 a3 K v48) (fun s24=>[(1,a1),(3,a3),(6,(.pointer (some ⟨b6,0,none⟩))),(48,(sv v48)),(49,(.int .i64 (v48.len:Int))),(50,(.int .i64 s24))]) (fun s24=>[bx b6 296 (aL.C a2)]) H23 (.cons p<|.cons p<|.cons p<|.cons p<|.cons p<|.cons p<|.nil _) (.cons_cons _ .slnil) fun Rec25 s24 _ H26=>O<|J (cu p p)<|ae<|am<|aw p H26 (fun k27 H28=>ap<|am<|az<|O<|ch H28 fun q52 e29 h30 H31=>J (bm slc_280 (aM p<|ba e29) p h30)<|aa<|aV H31 sc_199 p (fun _=>p) p fun x53 H32=>U p<|am<|O<|M p<|aa<|aS H32 (gn p p) p fun v55 _ H33=>ae<|aw p H33 (fun k34 H35=>bj<|aq<|J (bo p p)<|M p<|ae<|cL (i64.wrap (s24 + 1)) H35 (.cons p<|.cons p<|.cons p<|.cons p<|.cons p<|.cons p<|.nil _)<|.cons_cons _ .slnil) fun k34 H35=>ap<|O<|M p<|M p<|bi (bD (k:=0) ag_296 p p p p) p<|M p<|aa<|D H35 en_232 fun r60 _ H36=>ae<|aw p H36 (fun k37 H38=>O<|U p<|ak<|Z ⟨true,p,H38⟩) fun k37 H38=>ap<|aq<|J (bo p p)<|M p<|ae<|cL (i64.wrap (s24 + 1)) H38 (.cons p<|.cons p<|.cons p<|.cons p<|.cons p<|.cons p<|.nil _)<|.cons_cons _ .slnil) fun k27 H28=>bj<|O<|U p<|ak<|Z ⟨false,p,H28⟩) fun k21 H22=>O<|U p<|O<|U p<|ak<|Z ⟨false,p,H22⟩
def sj (a0:Value) (a1:Value) (K:Bool->Hp->Prop) (v14:aL) (v26:Value) (s11:Unit):Hp->Prop:=cl prog uu [a0,a1,(.agg (aL.C v14).toArray),v26] aB fun r41=>K r41
def xv (a0:Value) (a1:Value) (K:Bool->Hp->Prop) (v14:aL) (v16:Value) (s8:Unit):Hp->Prop:=cln prog (callMethod v16 "Elem" #[]) encV fun (v26:Value)=>cln prog (callMethod v26 "Kind" #[]) R_abi_Kind fun (v28:Int)=>br (v28 != 20) ( ld (0,0) cV fun x32=>cln prog (callMethod v26 "Implements" #[x32]) aB fun (v33:Bool)=>br (!v33) ( hpv prog (Instr.makeInterface vb (.string str_6ae768b9)) encV fun (v36:Value)=>nope) ( sj a0 a1 K v14 v26 ())) ( sj a0 a1 K v14 v26 ())
def xw (a0:Value) (a1:Value) (K:Bool->Hp->Prop) (s4:Unit):Hp->Prop:=cln prog (callFunc cX #[a1]) fD fun (v14:aL)=>cln prog (callFunc iv #[(.agg (aL.C v14).toArray)]) encV fun (v16:Value)=>cln prog (callMethod v16 "Kind" #[]) R_abi_Kind fun (v18:Int)=>br (!(v18 != 22)) ( cln prog (callFunc eS #[(.agg (aL.C v14).toArray)]) aB fun (v22:Bool)=>br v22 ( hpv prog (Instr.makeInterface vb (.string str_ae9b7a08)) encV fun (v24:Value)=>nope) ( xv a0 a1 K v14 v16 ())) ( hpv prog (Instr.makeInterface vb (.string str_ae9b7a08)) encV fun (v24:Value)=>nope)
def wR (a0:Value) (a1:Value) (K:Bool->Hp->Prop):Hp->Prop:=hpv prog (do eqGuard .eql 199 (.tmp 8) (.const Value.nilIface) a0 Value.nilIface; binOp .eql 199 a0 Value.nilIface:Sem Value) aB fun (v9:Bool)=>br v9 ( K false) ( hpv prog (do eqGuard .eql 20 (.tmp 10) (.const Value.nilIface) a1 Value.nilIface; binOp .eql 20 a1 Value.nilIface:Sem Value) aB fun (v11:Bool)=>br v11 ( hpv prog (Instr.makeInterface vb (.string str_53947bae)) encV fun (v12:Value)=>nope) ( xw a0 a1 K ()))
theorem sim_errors_As (a0:Value) (a1:Value) {K:Bool->Hp->Prop} {h:Hp} (H:wR a0 a1 K h):cl prog uv [a0,a1] aB K h:=z_i func227 p p fun _=>O<|U p<|am<|O<|M p<|aa<|aS H (gn p p) p fun v9 _ H1=>ae<|aw p H1 (fun k2 H3=>O<|U p<|ak<|Z ⟨false,p,H3⟩) fun k2 H3=>ap<|eq (xw a0 a1 K) (fun s4=>[(0,a0),(1,a1)]) (fun s4=>[]) (O<|M p<|aa<|aS H3 (gn p p) p fun v11 _ H34=>ae<|aw p H34 (fun k35 H36=>aq<|aa<|aS H36 (gy p) p fun v12 _ H37=>evlNo H37) fun k35 H36=>ap<|cF () H36 (.cons p<|.cons p<|.nil _) .slnil) fun s4 _ H5=>O<|M p<|aa<|gb H5 (rP (vs:=[a1]) p) p fun v14 _ H6=>aa<|aN (l:=aL.C (⟨none,none,0⟩:aL)) zero_296 p p fun b5=>aa<|aQ (k:=0) (vs:=aL.C v14) inf_296 p p p p p p p<|ae<|O<|bi (bD (k:=0) ag_296 p p p p) p<|aa<|gb H6 (rP (vs:=[(.agg (aL.C v14).toArray)]) p) p fun v16 _ H7=>U p<|eq (xv a0 a1 K v14 v16) (fun s8=>[(0,a0),(1,a1),(5,(.pointer (some ⟨b5,0,none⟩))),(6,v16)]) (fun s8=>[bx b5 296 (aL.C v14)]) (O<|M p<|aa<|gb H7 (ga (vs:=[]) p p) p fun v18 _ H24=>J (ph p p)<|M p<|W p p (aI _) (fun g25=>cv<|bD (k:=0) ag_296 p p p p)<|bU H24 (fun k27 H28=>G (F<|cg k27)<|gb H28 (rP (vs:=[(.agg (aL.C v14).toArray)])<|aR (aC p k27) bO) p fun v22 _ H29=>J (au p (cg k27) p)<|ae<|aw p H29 (fun k30 H31=>aq<|aa<|aS H31 (gy p) p fun v24 _ H32=>evlNo H32) fun k30 H31=>ap<|cF () H31 (.cons p<|.cons p<|.cons p<|.cons p<|.nil _)<|.cons_cons _ .slnil) fun k27 H28=>Y (bY<|bG k27)<|J (aT p (bG k27) p)<|ae<|lH p p<|aq<|aa<|aS H28 (gy p) p fun v24 _ H33=>evlNo H33) fun s8 _ H9=>O<|M p<|aa<|gb H9 (ga (vs:=[]) p p) p fun v26 _ H10=>U p<|eq (sj a0 a1 K v14 v26) (fun s11=>[(0,a0),(1,a1),(5,(.pointer (some ⟨b5,0,none⟩))),(7,v26)]) (fun s11=>[bx b5 296 (aL.C v14)]) (O<|M p<|aa<|gb H10 (ga (vs:=[]) p p) p fun v28 _ H14=>J (ph p p)<|M p<|W p p (ay _) (fun g15=>wv<|aj p)<|bU H14 (fun k17 H18=>G (F k17)<|aV H18 sc_249 p (fun _=>p) p fun x32 H19=>G (F k17)<|gb H19 (ga (vs:=[x32]) (aC p k17) p) p fun v33 _ H20=>G (F k17)<|z_p (ct p)<|J (aT p k17 p)<|ae<|aw p H20 (fun k21 H22=>aq<|aa<|aS H22 (gy p) p fun v36 _ H23=>evlNo H23) fun k21 H22=>ap<|cF () H22 (.cons p<|.cons p<|.cons p<|.cons p<|.nil _)<|.cons_cons _ .slnil) fun k17 H18=>Y (aU k17)<|Y (aU k17)<|Y (aU k17)<|J (au p k17 p)<|ae<|ev_no p p<|ap<|cF () H18 (.cons p<|.cons p<|.cons p<|.cons p<|.nil _)<|.cons_cons _ .slnil) fun s11 _ H12=>O<|M p<|M p<|bi (bD (k:=0) ag_296 p p p p) p<|M p<|aa<|D H12 en_232 fun r41 _ H13=>U p<|ak<|Z ⟨r41,p,H13⟩
def errors_is_l2 (a1:Value) (a2:Bool) (K:Bool->Hp->Prop) (v43:Sl) (Rec26:Int->Hp->Prop) (s25:Int):Hp->Prop:=br (decide (s25 < (v43.len:Int))) ( ix v43 s25 fun q47=>ld (q47.1,q47.2 + Int.toNat s25 * 1) cV fun x48=>cl prog nP [x48,a1,(.bool a2)] aB fun r52=>br r52 ( K true) ( Rec26 (i64.wrap (s25 + 1)))) ( K false)
def si (a1:Value) (a2:Bool) (K:Bool->Hp->Prop) (Rec2:Value->Hp->Prop) (s1:Value) (s12:Unit):Hp->Prop:=hpv prog (Instr.typeAssert s1 gq jf true) gm fun (v32:Value × Bool)=>br v32.2 ( cln prog (callMethod v32.1 "Unwrap" #[]) encV fun (v36:Value)=>hpv prog (do eqGuard .eql 199 (.tmp 37) (.const Value.nilIface) v36 Value.nilIface; binOp .eql 199 v36 Value.nilIface:Sem Value) aB fun (v38:Bool)=>br v38 ( K false) ( Rec2 v36)) ( hpv prog (Instr.typeAssert s1 gq iw true) fW fun (v39:Value × Bool)=>br v39.2 ( cln prog (callMethod v39.1 "Unwrap" #[]) R_Serror fun (v43:Sl)=>Lp (errors_is_l2 a1 a2 K v43) 0) ( K false))
def errors_is_l3 (a1:Value) (a2:Bool) (K:Bool->Hp->Prop) (v43:Sl) (Rec60:Int->Hp->Prop) (s59:Int):Hp->Prop:=br (decide (s59 < (v43.len:Int))) ( ix v43 s59 fun q47=>ld (q47.1,q47.2 + Int.toNat s59 * 1) cV fun x48=>cl prog nP [x48,a1,(.bool a2)] aB fun r52=>br r52 ( K true) ( Rec60 (i64.wrap (s59 + 1)))) ( K false)
def xr (a1:Value) (a2:Bool) (K:Bool->Hp->Prop) (Rec2:Value->Hp->Prop) (s1:Value) (s46:Unit):Hp->Prop:=hpv prog (Instr.typeAssert s1 gq jf true) gm fun (v32:Value × Bool)=>br v32.2 ( cln prog (callMethod v32.1 "Unwrap" #[]) encV fun (v36:Value)=>hpv prog (do eqGuard .eql 199 (.tmp 37) (.const Value.nilIface) v36 Value.nilIface; binOp .eql 199 v36 Value.nilIface:Sem Value) aB fun (v38:Bool)=>br v38 ( K false) ( Rec2 v36)) ( hpv prog (Instr.typeAssert s1 gq iw true) fW fun (v39:Value × Bool)=>br v39.2 ( cln prog (callMethod v39.1 "Unwrap" #[]) R_Serror fun (v43:Sl)=>Lp (errors_is_l3 a1 a2 K v43) 0) ( K false))
def sg (a1:Value) (a2:Bool) (K:Bool->Hp->Prop) (Rec2:Value->Hp->Prop) (s1:Value):Hp->Prop:=br a2 ( hpv prog (do eqGuard .eql 199 (.tmp 16) (.tmp 17) s1 a1; binOp .eql 199 s1 a1:Sem Value) aB fun (v18:Bool)=>br v18 ( K true) ( hpv prog (Instr.typeAssert s1 gq mt true) jO fun (v22:Value × Bool)=>br v22.2 ( cln prog (callMethod v22.1 "Is" #[a1]) aB fun (v29:Bool)=>br v29 ( K true) ( si a1 a2 K Rec2 s1 ())) ( si a1 a2 K Rec2 s1 ()))) ( hpv prog (Instr.typeAssert s1 gq mt true) jO fun (v22:Value × Bool)=>br v22.2 ( cln prog (callMethod v22.1 "Is" #[a1]) aB fun (v29:Bool)=>br v29 ( K true) ( xr a1 a2 K Rec2 s1 ())) ( xr a1 a2 K Rec2 s1 ()))
def wP (a0:Value) (a1:Value) (a2:Bool) (K:Bool->Hp->Prop):Hp->Prop:=Lp (sg a1 a2 K) a0
theorem sim_errors_is (a0:Value) (a1:Value) (a2:Bool) {K:Bool->Hp->Prop} {h:Hp} (H:wP a0 a1 a2 K h):cl prog nP [a0,a1,(.bool a2)] aB K h:=z_i func192 p p fun _=>O<|U p<|az<|bC (step:=sg a1 a2 K) (fun s1=>[(0,s1),(1,a1),(2,(.bool a2))]) (fun s1=>[]) H (.cons p<|.cons p<|.cons p<|.nil _) .slnil fun Rec2 s1 _ H3=>az<|am<|O<|M p<|M p<|W p p (ay _) (fun g4=>wv<|aj p)<|W p p (ay _) (fun g5=>wv<|aj p)<|bU H3 (fun k7 H8=>G (F k7)<|aS H8 (gn (aC p k7)<|aC p k7) p fun v18 _ H9=>J (aT p k7 p)<|ae<|aw p H9 (fun k10 H11=>O<|U p<|ak<|Z ⟨true,p,H11⟩) fun k10 H11=>ap<|eq (si a1 a2 K Rec2 s1) (fun s12=>[(0,s1),(1,a1),(2,(.bool a2))]) (fun s12=>[]) (O<|M p<|aa<|aS H11 (fY p) p fun v22 _ H37=>M p<|J (al p p)<|J (al p p)<|J (av p)<|U p<|O<|M p<|M p<|W p p (ay _) (fun g38=>wv<|aj p)<|W p p (ay _) (fun g39=>wv<|aj p)<|bU H37 (fun k41 H42=>G (F k41)<|gb H42 (ga (vs:=[a1]) (aC p k41)<|aR (aC p k41) bO) p fun v29 _ H43=>J (aT p k41 p)<|ae<|aw p H43 (fun k44 H45=>O<|U p<|ak<|Z ⟨true,p,H45⟩) fun k44 H45=>ap<|cF () H45 (.cons p<|.cons p<|.cons p<|.nil _) .slnil) fun k41 H42=>Y (aU k41)<|J (au p k41 p)<|ae<|ev_no p p<|ap<|cF () H42 (.cons p<|.cons p<|.cons p<|.nil _) .slnil) fun s12 _ H13=>O<|M p<|ae<|az<|O<|aa<|aS H13 (fY p) p fun v32 _ H14=>J (al p p)<|J (al p p)<|ae<|aw p H14 (fun k15 H16=>O<|U p<|O<|M p<|aa<|gb H16 (ga (vs:=[]) p p) p fun v36 _ H17=>U p<|O<|M p<|aa<|aS H17 (gn p p) p fun v38 _ H18=>ae<|aw p H18 (fun k19 H20=>O<|U p<|ak<|Z ⟨false,p,H20⟩) fun k19 H20=>ap<|cL v36 H20 (.cons p<|.cons p<|.cons p<|.nil _) .slnil) fun k15 H16=>O<|aa<|aS H16 (fY p) p fun v39 _ H21=>J (al p p)<|J (al p p)<|ae<|aw p H21 (fun k22 H23=>O<|U p<|am<|O<|M p<|aa<|gb H23 (ga (vs:=[]) p p) p fun v43 _ H24=>J (dv p underlying280 p)<|M p<|ae<|az<|bC (step:=errors_is_l2 a1 a2 K v43) (fun s25=>[(1,a1),(2,(.bool a2)),(43,(sv v43)),(44,(.int .i64 (v43.len:Int))),(45,(.int .i64 s25))]) (fun s25=>[]) H24 (.cons p<|.cons p<|.cons p<|.cons p<|.cons p<|.nil _) .slnil fun Rec26 s25 _ H27=>O<|J (cu p p)<|ae<|am<|aw p H27 (fun k28 H29=>ap<|am<|az<|O<|ch H29 fun q47 e30 h31 H32=>J (bm slc_280 (aM p<|ba e30) p h31)<|aa<|aV H32 sc_199 p (fun _=>p) p fun x48 H33=>U p<|O<|M p<|M p<|M p<|aa<|D H33 en_192 fun r52 _ H34=>ae<|aw p H34 (fun k35 H36=>O<|U p<|ak<|Z ⟨true,p,H36⟩) fun k35 H36=>ap<|aq<|J (bo p p)<|M p<|ae<|cL (i64.wrap (s25 + 1)) H36 (.cons p<|.cons p<|.cons p<|.cons p<|.cons p<|.nil _) .slnil) fun k28 H29=>bj<|O<|U p<|ak<|Z ⟨false,p,H29⟩) fun k22 H23=>O<|U p<|O<|U p<|ak<|Z ⟨false,p,H23⟩) fun k7 H8=>Y (aU k7)<|J (au p k7 p)<|ae<|ev_no p p<|ap<|eq (xr a1 a2 K Rec2 s1) (fun s46=>[(0,s1),(1,a1),(2,(.bool a2))]) (fun s46=>[]) (O<|M p<|aa<|aS H8 (fY p) p fun v22 _ H71=>M p<|J (al p p)<|J (al p p)<|J (av p)<|U p<|O<|M p<|M p<|W p p (ay _) (fun g72=>wv<|aj p)<|W p p (ay _) (fun g73=>wv<|aj p)<|bU H71 (fun k75 H76=>G (F k75)<|gb H76 (ga (vs:=[a1]) (aC p k75)<|aR (aC p k75) bO) p fun v29 _ H77=>J (aT p k75 p)<|ae<|aw p H77 (fun k78 H79=>O<|U p<|ak<|Z ⟨true,p,H79⟩) fun k78 H79=>ap<|cF () H79 (.cons p<|.cons p<|.cons p<|.nil _) .slnil) fun k75 H76=>Y (aU k75)<|J (au p k75 p)<|ae<|ev_no p p<|ap<|cF () H76 (.cons p<|.cons p<|.cons p<|.nil _) .slnil) fun s46 _ H47=>O<|M p<|ae<|az<|O<|aa<|aS H47 (fY p) p fun v32 _ H48=>J (al p p)<|J (al p p)<|ae<|aw p H48 (fun k49 H50=>O<|U p<|O<|M p<|aa<|gb H50 (ga (vs:=[]) p p) p fun v36 _ H51=>U p<|O<|M p<|aa<|aS H51 (gn p p) p fun v38 _ H52=>ae<|aw p H52 (fun k53 H54=>O<|U p<|ak<|Z ⟨false,p,H54⟩) fun k53 H54=>ap<|cL v36 H54 (.cons p<|.cons p<|.cons p<|.nil _) .slnil) fun k49 H50=>O<|aa<|aS H50 (fY p) p fun v39 _ H55=>J (al p p)<|J (al p p)<|ae<|aw p H55 (fun k56 H57=>O<|U p<|am<|O<|M p<|aa<|gb H57 (ga (vs:=[]) p p) p fun v43 _ H58=>J (dv p underlying280 p)<|M p<|ae<|az<|bC (step:=errors_is_l3 a1 a2 K v43) (fun s59=>[(1,a1),(2,(.bool a2)),(43,(sv v43)),(44,(.int .i64 (v43.len:Int))),(45,(.int .i64 s59))]) (fun s59=>[]) H58 (.cons p<|.cons p<|.cons p<|.cons p<|.cons p<|.nil _) .slnil fun Rec60 s59 _ H61=>O<|J (cu p p)<|ae<|am<|aw p H61 (fun k62 H63=>ap<|am<|az<|O<|ch H63 fun q47 e64 h65 H66=>J (bm slc_280 (aM p<|ba e64) p h65)<|aa<|aV H66 sc_199 p (fun _=>p) p fun x48 H67=>U p<|O<|M p<|M p<|M p<|aa<|D H67 en_192 fun r52 _ H68=>ae<|aw p H68 (fun k69 H70=>O<|U p<|ak<|Z ⟨true,p,H70⟩) fun k69 H70=>ap<|aq<|J (bo p p)<|M p<|ae<|cL (i64.wrap (s59 + 1)) H70 (.cons p<|.cons p<|.cons p<|.cons p<|.cons p<|.nil _) .slnil) fun k62 H63=>bj<|O<|U p<|ak<|Z ⟨false,p,H63⟩) fun k56 H57=>O<|U p<|O<|U p<|ak<|Z ⟨false,p,H57⟩
def wQ (a0:Value) (a1:Value) (K:Bool->Hp->Prop):Hp->Prop:=hpv prog (do eqGuard .eql 199 (.tmp 6) (.const Value.nilIface) a0 Value.nilIface; binOp .eql 199 a0 Value.nilIface:Sem Value) aB fun (v7:Bool)=>br (!v7) ( hpv prog (do eqGuard .eql 199 (.tmp 9) (.const Value.nilIface) a1 Value.nilIface; binOp .eql 199 a1 Value.nilIface:Sem Value) aB fun (v10:Bool)=>br v10 ( hpv prog (do eqGuard .eql 199 (.tmp 12) (.tmp 13) a0 a1; binOp .eql 199 a0 a1:Sem Value) aB fun (v14:Bool)=>K v14) ( cln prog (callFunc ge #[a1]) encV fun (v16:Value)=>cln prog (callMethod v16 "Comparable" #[]) aB fun (v17:Bool)=>cl prog nP [a0,a1,(.bool v17)] aB fun r21=>K r21)) ( hpv prog (do eqGuard .eql 199 (.tmp 12) (.tmp 13) a0 a1; binOp .eql 199 a0 a1:Sem Value) aB fun (v14:Bool)=>K v14)
theorem sim_errors_Is (a0:Value) (a1:Value) {K:Bool->Hp->Prop} {h:Hp} (H:wQ a0 a1 K h):cl prog nQ [a0,a1] aB K h:=z_i func149 p p fun _=>O<|U p<|am<|O<|M p<|aa<|aS H (gn p p) p fun v7 _ H1=>M p<|W p p (aI _) (fun g2=>wv<|aj p)<|bU H1 (fun k4 H5=>G (F<|cg k4)<|aS H5 (gn (aC p k4) p) p fun v10 _ H6=>J (au p (cg k4) p)<|ae<|aw p H6 (fun k7 H8=>O<|M p<|M p<|aa<|aS H8 (gn p p) p fun v14 _ H9=>U p<|ak<|Z ⟨v14,p,H9⟩) fun k7 H8=>ap<|O<|M p<|aa<|gb H8 (rP (vs:=[a1]) p) p fun v16 _ H10=>aa<|gb H10 (ga (vs:=[]) p p) p fun v17 _ H11=>U p<|O<|M p<|M p<|M p<|aa<|D H11 en_192 fun r21 _ H12=>U p<|ak<|Z ⟨r21,p,H12⟩) fun k4 H5=>Y (bY<|bG k4)<|J (aT p (bG k4) p)<|ae<|lH p p<|O<|M p<|M p<|aa<|aS H5 (gn p p) p fun v14 _ H13=>U p<|ak<|Z ⟨v14,p,H13⟩
end
end Go.Proofs.YtemoifebbhoinaaGreatDoor
