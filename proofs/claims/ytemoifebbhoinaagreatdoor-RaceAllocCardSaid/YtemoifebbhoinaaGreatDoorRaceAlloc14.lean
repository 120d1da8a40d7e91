/- Part of the proof of: The law RaceAlloc returns true for every input, and leaves its arguments as they were. -/
import Derived.Test.YtemoifebbhoinaaGreatDoorRaceAlloc13
set_option linter.all false
set_option maxRecDepth 20000
namespace Go.Proofs.YtemoifebbhoinaaGreatDoor
open Tryz
section
open Go Mb
theorem do_done {k:PK} {e:Int} {c:da} (cw:Cw c) (h9:c.e0 ≠ 9) (hn:1 <= k.s.fIa/\k.s.fIa <= 4):(PK.do_ k e c).1.2 = true:=by
 by_cases hb:PK.off k e = true\/Word.check c k.s.fIa ≠ 0
 ·exact (PK.do_bad hb).2.1
 ·simp only [not_or,Bool.not_eq_true,Decidable.not_not] at hb
  have w:=tP hn.1 hn.2 hb.2
  rw [PK.do_good hb.1 hb.2]
  unfold PK.does PK.errs
  rw [PK.w0 w]
  repeat' split
  all_goals first | rfl | (exfalso; omega)
theorem waitsFrom_none {n o:Int}:∀ {l:List Int} {i:Int},(∀ (j:Nat) (a:Int),l[j]? = some a->o ≠ i + j->n <= a)->fMa.fIb n o l i = []
 | [],_,_=>rfl
 | b::l,i,h=>by
  rw [fMa.fIb,if_neg]
  ·exact waitsFrom_none fun j a hj ho=>h (j + 1) a (by simpa using hj) (by omega)
  ·rintro ⟨h1,h2⟩
   have:=h 0 b rfl (by simpa using h2)
   omega
theorem done_of {k:KK} {n:Int} {d:Nat} (h1:1 <= n) (h2:n <= k.fFa.1.length) (ho:k.fFa.1[(n - 1).toNat]? = some (d:Int)) (h:∀ c,c < k.fFa.2.length->c ≠ d->n <= fSa k c):fMa.done k.fFa n = true:=by
 unfold fMa.done
 simp only [Bool.and_eq_true,decide_eq_true_eq]
 refine ⟨⟨h1,h2⟩,?_⟩
 unfold fMa.waits
 rw [if_neg (by unfold fMa.now; omega)]
 have hov:k.fFa.1.getD (n - 1).toNat 0 = d:=by rw [List.getD_eq_getElem?_getD,ho]; rfl
 rw [hov]
 refine waitsFrom_none fun j a hj hne=>?_
 have hlt:=(List.getElem?_eq_some_iff.1 hj).1
 have:=h j hlt (by omega)
 unfold fSa at this
 rw [List.getD_eq_getElem?_getD,hj] at this
 exact this
structure Closed (P:KK->Prop):Prop where
 inv:∀ {k:KK},P k->fo k
 post:∀ {k:KK},P k->k.now < 2 ^ 40->∀ c:Int,P (KK.post k c).2
 step:∀ {k:KK},P k->k.now < 2 ^ 40->∀ c:Int,P (KK.step k c).2
variable {P:KK->Prop}
structure Posted (k k':KK) (c:Nat):Prop where
 calls:k'.calls = k.calls
 own:k'.fFa.1 = k.fFa.1
 p:k'.p = k.p
 events:k'.events = k.events
 up:∀ d,fSa k d <= fSa k' d
 now:k'.now = k.now + 1
 box:Mail.box k'.fJa c = (Mail.box k.fJa c).drop 1
theorem post_posted {k:KK} (A:fo k) (hn:k.now < 2 ^ 40) {c:Nat} (h:0 < KK.mail k c):Posted k (KK.post k c).2 c:=by
 have hi:KK.is k c = true:=by
  unfold KK.mail at h; split at h
  ·assumption
  ·omega
 unfold KK.mail at h
 rw [if_pos hi] at h
 have hw:Mail.waits k.fJa c ≠ 0:=by omega
 obtain ⟨n,e1,hlt⟩:=lf hi
 have hlt:c < k.calls.length:=by omega
 have hbl:k.fJa.length = k.calls.length:=by have:=A.ok.bl; have:=A.ok.cl; omega
 have hel:k.fFa.2.length = k.calls.length:=by have:=A.ok.el; have:=A.ok.cl; omega
 have htk:Mail.take k.fJa c = (((Mail.box k.fJa c).getD 0 0,true),k.fJa.set c ((Mail.box k.fJa c).drop 1)):=by
  unfold Mail.take; rw [if_neg hw]; simp
 have ht:=tick_now A.ok hn
 unfold KK.post
 rw [if_neg (by rw [hi]; simp),htk,if_neg (by simp)]
 refine ⟨rfl,?_,rfl,rfl,fun d=>?_,ht,?_⟩
 ·show (fMa.ack k.fFa c _).2.1 = _
  unfold fMa.ack; split <;> rfl
 ·show fSa k d <= (fMa.ack k.fFa c ((Mail.box k.fJa c).getD 0 0)).2.2.getD d 0
  unfold fMa.ack
  split
  ·show fSa k d <= (k.fFa.2.set (c:Int).toNat (mx (k.fFa.2.getD (c:Int).toNat 0) _)).getD d 0
   simp only [Int.toNat_natCast,List.getD_eq_getElem?_getD,List.getElem?_set]
   by_cases e:c = d
   ·subst e
    rw [if_pos rfl,if_pos (by omega)]
    unfold fSa
    rw [List.getD_eq_getElem?_getD]
    show _ <= mx _ _
    unfold mx; split <;> omega
   ·rw [if_neg e]
    unfold fSa; rw [List.getD_eq_getElem?_getD]; exact Int.le_refl _
  ·exact Int.le_refl _
 ·show Mail.box (k.fJa.set c ((Mail.box k.fJa c).drop 1)) c = _
  simp only [Mail.box,Int.toNat_natCast,List.getD_eq_getElem?_getD,List.getElem?_set]
  rw [if_pos trivial,if_pos (by omega)]; rfl
structure Drained (P:KK->Prop) (k k':KK) (c n:Nat):Prop where
 all:P k'
 calls:k'.calls = k.calls
 own:k'.fFa.1 = k.fFa.1
 p:k'.p = k.p
 events:k'.events = k.events
 up:∀ d,fSa k d <= fSa k' d
 lo:k.now <= k'.now
 now:k'.now <= k.now + n
 box:Mail.box k'.fJa c = []
theorem mail_len {k:KK} {c:Nat} (ok:KK.Ok k) (hc:c < k.calls.length):KK.mail k c = ((Mail.box k.fJa c).length:Int):=by
 have hbl:k.fJa.length = k.calls.length:=by have:=ok.bl; have:=ok.cl; omega
 have hi:KK.is k c = true:=by unfold KK.is; exact decide_eq_true (by omega)
 unfold KK.mail Mail.waits
 rw [if_pos hi,if_pos (by unfold Mail.has; exact decide_eq_true (by omega))]
theorem drain_drained (hp:Closed P) {c:Nat}:∀ (n:Nat) {k:KK},P k->c < k.calls.length->(Mail.box k.fJa c).length <= n->k.now + n < 2 ^ 40->Drained P k (KK.drain c n k) c n
 | 0,k,A,hc,hl,hn=>⟨A,rfl,rfl,rfl,rfl,fun _=>Int.le_refl _,Int.le_refl _,by show k.now <= k.now + 0; omega,List.eq_nil_of_length_eq_zero (by show (Mail.box k.fJa c).length = 0; omega)⟩
 | n + 1,k,A,hc,hl,hn=>by
  rw [KK.drain]
  by_cases hm:0 < KK.mail k c
  ·rw [if_pos hm]
   have Q:=post_posted (hp.inv A) (by omega) hm
   have A':=hp.post A (by omega) c
   have D:=drain_drained hp n A' (by rw [Q.calls]; exact hc) (by rw [Q.box,List.length_drop]; omega) (by rw [Q.now]; omega)
   have h1:=Q.now
   have h2:=D.now
   have h3:=D.lo
   exact ⟨D.all,D.calls.trans Q.calls,D.own.trans Q.own,D.p.trans Q.p,D.events.trans Q.events,fun d=>Int.le_trans (Q.up d) (D.up d),by omega,by omega,D.box⟩
  ·rw [if_neg hm]
   rw [mail_len (hp.inv A).ok hc] at hm
   exact ⟨A,rfl,rfl,rfl,rfl,fun _=>Int.le_refl _,Int.le_refl _,by omega,List.eq_nil_of_length_eq_zero (by omega)⟩
structure Stepped (k k':KK) (c:Nat):Prop where
 other:∀ d,d ≠ c->k'.calls[d]? = k.calls[d]?
 len:k'.calls.length = k.calls.length
 own:∃ m,k'.fFa.1 = k.fFa.1++m/\m.length <= 1
 fSa:∀ d,fSa k' d = fSa k d
theorem step_stepped {k:KK} (A:fo k) {c:Nat} {x:KC} (hc:c < k.calls.length) (hx:k.calls[c]? = some (some x)):Stepped k (KK.step k c).2 c /\
  (x.fc.e0 ≠ 9->(KK.step k c).2.calls[c]? = some none\/∃ y,(KK.step k c).2.calls[c]? = some (some y)/\y.fPa = true/\y.fc = x.fc) /\
  (x.fPa = true->fMa.done k.fFa x.fBb = true->(KK.step k c).2.calls[c]? = some none):=by
 have hi:KK.is k c = true:=by unfold KK.is; exact decide_eq_true (by omega)
 have hcall:KK.call k c = some x:=by unfold KK.call; rw [Int.toNat_natCast,List.getD_eq_getElem?_getD,hx]; rfl
 have hb:KK.busy k c = true:=by unfold KK.busy; rw [hi,hcall]; rfl
 have cw:=A.cw c x hx
 have hstep:(KK.step k c).2 = KK.work (KK.tick k) c x:=by unfold KK.step; rw [if_neg (by rw [hb]; simp),hcall]
 have ends_c:∀ (m:KK) (a:eH) (l:jn),m.calls = k.calls->(KK.ends m c x a l).calls = k.calls.set c none:=fun m a l h=>by unfold KK.ends; simp [h]
 have set_none:∀ d,d ≠ c->(k.calls.set c none)[d]? = k.calls[d]?:=fun d h=>by rw [List.getElem?_set,if_neg (fun e=>h e.symm)]
 have at_none:(k.calls.set c none)[c]? = some none:=by rw [List.getElem?_set,if_pos rfl,if_pos hc]
 have told_nu:x.fPa = true->¬ bA (az x.fc).1 = true:=fun ht hu=>by
  have T:=A.teller ⟨hx,ht⟩
  have w:=tP A.en.1 A.en.2 T.k
  have:=T.t
  rw [tn w.kind] at hu
  unfold bA at hu
  unfold Tk at this
  simp at hu
  omega
 rw [hstep]
 unfold KK.work
 by_cases hu:bA (az x.fc).1 = true
 ·rw [if_pos hu]
  have ha:(KK.access (KK.tick k) c x).2.calls = k.calls/\(KK.access (KK.tick k) c x).2.fFa = k.fFa:=by
   unfold KK.access
   split
   ·exact ⟨rfl,rfl⟩
   ·split <;> exact ⟨rfl,rfl⟩
  have hcs:=ends_c (KK.access (KK.tick k) c x).2 (KK.access (KK.tick k) c x).1.1 (KK.access (KK.tick k) c x).1.2 ha.1
  have hep:(KK.ends (KK.access (KK.tick k) c x).2 c x (KK.access (KK.tick k) c x).1.1 (KK.access (KK.tick k) c x).1.2).fFa = k.fFa:=ha.2
  refine ⟨⟨fun d h=>by rw [hcs]; exact set_none d h,by rw [hcs]; simp,⟨[],by rw [hep]; simp,Nat.zero_le _⟩,fun d=>by unfold fSa; rw [hep]⟩,fun _=>.inl (by rw [hcs]; exact at_none),fun ht=>absurd hu (told_nu ht)⟩
 ·rw [if_neg hu]
  by_cases ht:x.fPa = false/\KK.takes (KK.tick k).p x = true
  ·rw [if_pos ht]
   have hcs:(KK.send (KK.clean (KK.tell (KK.tick k) c x) c) c x).calls = k.calls.set c (some { x with fPa:=true,fBb:=(fMa.begin_ k.fFa c).1.1 }):=by
    simp only [KK.send,KK.clean,KK.tell,KK.tick,Int.toNat_natCast,List.set_set]
   have hep:(KK.send (KK.clean (KK.tell (KK.tick k) c x) c) c x).fFa = (fMa.begin_ k.fFa c).2:=rfl
   have hel:k.fFa.2.length = k.calls.length:=by have:=A.ok.el; have:=A.ok.cl; omega
   have he:(fMa.begin_ k.fFa c).2 = (k.fFa.1++[(c:Int)],k.fFa.2):=by
    have:fMa.is k.fFa c = true:=by unfold fMa.is; exact decide_eq_true (by omega)
    unfold fMa.begin_
    rw [if_pos this]
   refine ⟨⟨fun d h=>by rw [hcs,List.getElem?_set,if_neg (fun e=>h e.symm)],by rw [hcs]; simp,⟨[(c:Int)],by rw [hep,he],Nat.le_refl _⟩,fun d=>by unfold fSa; rw [hep,he]⟩,fun _=>.inr ⟨{ x with fPa:=true,fBb:=(fMa.begin_ k.fFa c).1.1 },by rw [hcs,List.getElem?_set,if_pos rfl,if_pos hc],rfl,rfl⟩,fun h=>by rw [ht.1] at h; cases h⟩
  ·rw [if_neg ht]
   by_cases hd:x.fPa = true/\fMa.done (KK.tick k).fFa x.fBb = false
   ·rw [if_pos hd]
    refine ⟨⟨fun d h=>rfl,rfl,⟨[],by simp [KK.tick],Nat.zero_le _⟩,fun d=>rfl⟩,fun _=>.inr ⟨x,hx,hd.1,rfl⟩,fun h1 h2=>?_⟩
    have:=hd.2
    rw [show (KK.tick k).fFa = k.fFa from rfl,h2] at this
    cases this
   ·rw [if_neg hd]
    by_cases h9:x.fc.e0 = 9
    ·have hnt:¬ x.fPa = true:=fun h=>by
      have:=(A.teller ⟨hx,h⟩).t
      unfold Tk at this; omega
     split
     ·have hcs:=ends_c { KK.tick k with p:=(PK.do_ (KK.tick k).p x.fGa x.fc).2 } (PK.do_ (KK.tick k).p x.fGa x.fc).1.1 iB rfl
      refine ⟨⟨fun d h=>by rw [hcs]; exact set_none d h,by rw [hcs]; simp,⟨[],by show k.fFa.1 = k.fFa.1++[]; simp,Nat.zero_le _⟩,fun d=>rfl⟩,fun h=>absurd h9 h,fun h=>absurd h hnt⟩
     ·exact ⟨⟨fun d h=>rfl,rfl,⟨[],by show k.fFa.1 = k.fFa.1++[]; simp,Nat.zero_le _⟩,fun d=>rfl⟩,fun h=>absurd h9 h,fun h=>absurd h hnt⟩
    ·have hdn:(PK.do_ (KK.tick k).p x.fGa x.fc).1.2 = true:=do_done cw h9 A.en
     rw [if_pos hdn]
     have hcs:=ends_c { KK.tick k with p:=(PK.do_ (KK.tick k).p x.fGa x.fc).2 } (PK.do_ (KK.tick k).p x.fGa x.fc).1.1 iB rfl
     refine ⟨⟨fun d h=>by rw [hcs]; exact set_none d h,by rw [hcs]; simp,⟨[],by show k.fFa.1 = k.fFa.1++[]; simp,Nat.zero_le _⟩,fun d=>rfl⟩,fun _=>.inl (by rw [hcs]; exact at_none),fun _ _=>by rw [hcs]; exact at_none⟩
structure Turned (P:KK->Prop) (k k':KK) (c:Nat):Prop where
 all:P k'
 other:∀ d,d ≠ c->k'.calls[d]? = k.calls[d]?
 len:k'.calls.length = k.calls.length
 own:∃ m,k'.fFa.1 = k.fFa.1++m/\m.length <= 1
 up:∀ d,fSa k d <= fSa k' d
 self:∀ n:Nat,n < k.fFa.1.length->k.fFa.1[n]? ≠ some (c:Int)->(n:Int) + 1 <= fSa k' c
 lo:k.now <= k'.now
 now:k'.now <= k.now + 5001
theorem busy_nat {k:KK} {c:Nat} (hc:c < k.calls.length):KK.busy k c = true↔∃ x,k.calls[c]? = some (some x):=by
 have hi:KK.is k c = true:=by unfold KK.is; exact decide_eq_true (by omega)
 unfold KK.busy KK.call
 rw [hi,Int.toNat_natCast,List.getD_eq_getElem?_getD,List.getElem?_eq_getElem hc]
 cases k.calls[c] with
 | none=>simp
 | some x=>simp
theorem turn_turned (hp:Closed P) {k:KK} (A:P k) {c:Nat} (hc:c < k.calls.length) (hb:k.fFa.1.length <= 5000) (hnow:k.now < 2 ^ 35):Turned P k (KK.turn1 k c).1 c/\((KK.turn1 k c).2 = true↔∃ x,k.calls[c]? = some (some x)) /\
  (k.calls[c]? = some none->(KK.turn1 k c).1.calls[c]? = some none) /\
  (∀ x,k.calls[c]? = some (some x)->x.fc.e0 ≠ 9->(KK.turn1 k c).1.calls[c]? = some none\/∃ y,(KK.turn1 k c).1.calls[c]? = some (some y)/\y.fPa = true/\y.fc = x.fc) /\
  (∀ x,k.calls[c]? = some (some x)->x.fPa = true->(∀ d,d < k.calls.length->d ≠ c->x.fBb <= fSa k d)->(KK.turn1 k c).1.calls[c]? = some none):=by
 have hbox:(Mail.box k.fJa c).length <= 5000:=by
  have:=box_len (box_of (hp.inv A).ok.bx (c:Int))
  omega
 have D:=drain_drained hp 5000 A hc hbox (by omega)
 have hself:∀ n:Nat,n < k.fFa.1.length->k.fFa.1[n]? ≠ some (c:Int)->(n:Int) + 1 <= fSa (KK.drain c 5000 k) c:=by
  intro n h1 h2
  rcases (hp.inv D.all).mail c n (by rw [D.calls]; exact hc) (by rw [D.own]; exact h1) (by rw [D.own]; exact h2) with h | h
  ·exact h
  ·rw [D.box] at h; cases h
 unfold KK.turn1
 have hd:(KK.drain (c:Int) 5000 k) = KK.drain c 5000 k:=rfl
 by_cases hbz:KK.busy (KK.drain c 5000 k) c = true
 ·rw [if_pos hbz]
  dsimp only
  have hcd:c < (KK.drain c 5000 k).calls.length:=by rw [D.calls]; exact hc
  obtain ⟨x,hx⟩:=(busy_nat hcd).1 hbz
  obtain ⟨S,s1,s2⟩:=step_stepped (hp.inv D.all) hcd hx
  have hx':k.calls[c]? = some (some x):=by rw [← D.calls]; exact hx
  have hn:=KK.step_now (k:=KK.drain c 5000 k) (hp.inv D.all).ok.n0 (by have:=D.now; omega) c
  refine ⟨⟨hp.step D.all (by have:=D.now; omega) c,fun d h=>by rw [S.other d h,D.calls],by rw [S.len,D.calls],?_,fun d=>by rw [S.fSa]; exact D.up d,fun n h1 h2=>by rw [S.fSa]; exact hself n h1 h2,by have:=D.lo; omega,by have:=D.now; omega⟩,⟨fun _=>⟨x,hx'⟩,fun _=>rfl⟩,fun h=>(by rw [hx'] at h; cases h),fun y hy h9=>?_,fun y hy ht hh=>?_⟩
  ·obtain ⟨m,hm,hl⟩:=S.own
   exact ⟨m,by rw [hm,D.own],hl⟩
  ·rw [hx'] at hy; cases hy; exact s1 h9
  ·rw [hx'] at hy; cases hy
   refine s2 ht ?_
   have T:=(hp.inv D.all).told c x ⟨hx,ht⟩
   have hel:(KK.drain c 5000 k).fFa.2.length = k.calls.length:=by have:=(hp.inv D.all).ok.el; have:=(hp.inv D.all).ok.cl; rw [D.calls] at this; omega
   exact done_of T.2.1 T.2.2.1 T.2.2.2 fun d hdl hne=>Int.le_trans (hh d (by omega) hne) (D.up d)
 ·rw [if_neg hbz]
  dsimp only
  have hcd:c < (KK.drain c 5000 k).calls.length:=by rw [D.calls]; exact hc
  have hno:¬ ∃ x,k.calls[c]? = some (some x):=fun ⟨x,h⟩=>hbz ((busy_nat hcd).2 ⟨x,by rw [D.calls]; exact h⟩)
  refine ⟨⟨D.all,fun d _=>by rw [D.calls],by rw [D.calls],⟨[],by rw [D.own]; simp,Nat.zero_le _⟩,D.up,hself,D.lo,by have:=D.now; omega⟩,⟨fun h=>(by cases h),fun h=>absurd h hno⟩,fun h=>by rw [D.calls]; exact h,fun y hy=>absurd ⟨y,hy⟩ hno,fun y hy=>absurd ⟨y,hy⟩ hno⟩
end
section
open Go Mb
variable {P:KK->Prop}
structure Swept (P:KK->Prop) (n c:Nat) (k k':KK) (b b':Bool):Prop where
 all:P k'
 len:k'.calls.length = k.calls.length
 own:∃ m,k'.fFa.1 = k.fFa.1++m/\m.length <= n
 up:∀ d,fSa k d <= fSa k' d
 lo:k.now <= k'.now
 now:k'.now <= k.now + n * 5001
 other:∀ d:Nat,d < c\/c + n <= d->k'.calls[d]? = k.calls[d]?
 none_:∀ d:Nat,k.calls[d]? = some none->k'.calls[d]? = some none
 busy:b' = true↔b = true\/∃ (d:Nat) (x:KC),c <= d/\d < c + n/\k.calls[d]? = some (some x)
 self:∀ d:Nat,c <= d->d < c + n->d < k.calls.length->∀ m:Nat,m < k.fFa.1.length->k.fFa.1[m]? ≠ some (d:Int)->(m:Int) + 1 <= fSa k' d
 told:∀ (d:Nat) x,c <= d->d < c + n->k.calls[d]? = some (some x)->x.fc.e0 ≠ 9->k'.calls[d]? = some none\/∃ y,k'.calls[d]? = some (some y)/\y.fPa = true/\y.fc = x.fc/\∀ e,d < e->e < c + n->e < k.calls.length->y.fBb <= fSa k' e
 fin:∀ (d:Nat) x,c <= d->d < c + n->k.calls[d]? = some (some x)->x.fPa = true->(∀ e,e < k.calls.length->(e < c\/d < e)->x.fBb <= fSa k e)->k'.calls[d]? = some none
theorem turn_out {k:KK} {c:Nat} (hc:k.calls.length <= c):KK.turn1 k c = (k,false):=by
 have hi:KK.is k c = false:=by unfold KK.is; exact decide_eq_false (by omega)
 have hm:KK.mail k c = 0:=by unfold KK.mail; rw [hi]; rfl
 have hd:KK.drain (c:Int) 5000 k = k:=by
  rw [show (5000:Nat) = 4999 + 1 from rfl,KK.drain,if_neg (by rw [hm]; omega)]
 have hb:KK.busy k c = false:=by unfold KK.busy; rw [hi]; rfl
 unfold KK.turn1
 rw [hd,if_neg (by rw [hb]; decide)]
theorem qG (hp:Closed P):∀ (n:Nat) {c:Nat} {k:KK} (b:Bool),P k->k.fFa.1.length + n <= 5000->k.now + n * 5001 < 2 ^ 35->Swept P n c k (KK.sweep n c k b).1 b (KK.sweep n c k b).2
 | 0,c,k,b,A,_,_=>⟨A,rfl,⟨[],by simp [KK.sweep],Nat.zero_le _⟩,fun _=>Int.le_refl _,Int.le_refl _,by simp [KK.sweep],fun _ _=>rfl,fun _ h=>h,⟨fun h=>.inl h,fun h=>by
   rcases h with h | ⟨d,x,h1,h2,_⟩
   ·exact h
   ·omega⟩,fun d h1 h2=>by omega,fun d x h1 h2=>by omega,fun d x h1 h2=>by omega⟩
 | n + 1,c,k,b,A,hl,hn=>by
  have hI:=hp.inv A
  have e1:KK.sweep (n + 1) c k b = KK.sweep n ((c + 1:Nat):Int) (KK.turn1 k c).1 ((KK.turn1 k c).2 || b):=rfl
  rw [e1]
  rcases Nat.lt_or_ge c k.calls.length with hc | hc
  ·obtain ⟨T,t1,t2,t3,t4⟩:=turn_turned hp A hc (by omega) (by omega)
   obtain ⟨m1,hm1,hl1⟩:=T.own
   have hn1:=T.now
   have hlo1:=T.lo
   have S:=qG hp n (c:=c + 1) ((KK.turn1 k c).2 || b) T.all (by rw [hm1,List.length_append]; omega) (by omega)
   obtain ⟨m2,hm2,hl2⟩:=S.own
   have hn2:=S.now
   have hlo2:=S.lo
   have own1:∀ m:Nat,m < k.fFa.1.length->(KK.turn1 k c).1.fFa.1[m]? = k.fFa.1[m]?:=fun m h=>by rw [hm1,List.getElem?_append_left h]
   have len1:k.fFa.1.length <= (KK.turn1 k c).1.fFa.1.length:=by rw [hm1,List.length_append]; omega
   have hS:=S.self
   have hTl:=T.len
   refine ⟨S.all,S.len.trans T.len,⟨m1++m2,by rw [hm2,hm1,List.append_assoc],by rw [List.length_append]; omega⟩,fun d=>Int.le_trans (T.up d) (S.up d),by omega,by omega,fun d h=>?_,fun d h=>?_,?_,fun d h1 h2 h3 m h4 h5=>?_,fun d x h1 h2 h3 h4=>?_,fun d x h1 h2 h3 h4 h5=>?_⟩
   ·rw [S.other d (by omega),T.other d (by omega)]
   ·refine S.none_ d ?_
    by_cases e:d = c
    ·subst e; exact t2 h
    ·rw [T.other d e]; exact h
   ·rw [S.busy,Bool.or_eq_true,t1]
    constructor
    ·rintro ((⟨x,h⟩ | h) | ⟨d,x,h1,h2,h3⟩)
     ·exact .inr ⟨c,x,Nat.le_refl _,by omega,h⟩
     ·exact .inl h
     ·rw [T.other d (by omega)] at h3
      exact .inr ⟨d,x,by omega,by omega,h3⟩
    ·rintro (h | ⟨d,x,h1,h2,h3⟩)
     ·exact .inl (.inr h)
     ·by_cases e:d = c
      ·subst e; exact .inl (.inl ⟨x,h3⟩)
      ·exact .inr ⟨d,x,by omega,by omega,by rw [T.other d e]; exact h3⟩
   ·by_cases e:d = c
    ·subst e
     exact Int.le_trans (T.self m h4 h5) (S.up d)
    ·exact hS d (by omega) (by omega) (by omega) m (by omega) (by rw [own1 m h4]; exact h5)
   ·by_cases e:d = c
    ·subst e
     rcases t3 x h3 h4 with h6 | ⟨y,h6,h7,h8⟩
     ·exact .inl (by rw [S.other d (by omega)]; exact h6)
     ·refine .inr ⟨y,by rw [S.other d (by omega)]; exact h6,h7,h8,fun e h9 h10 h11=>?_⟩
      have Q:=(hp.inv T.all).told d y ⟨h6,h7⟩
      have:=hS e (by omega) (by omega) (by omega) (y.fBb - 1).toNat (by omega) (by rw [Q.2.2.2]; intro h; injection h with h; omega)
      omega
    ·rcases S.told d x (by omega) (by omega) (by rw [T.other d e]; exact h3) h4 with h6 | ⟨y,h6,h7,h8,h9⟩
     ·exact .inl h6
     ·exact .inr ⟨y,h6,h7,h8,fun e h10 h11 h12=>h9 e h10 (by omega) (by omega)⟩
   ·by_cases e:d = c
    ·subst e
     rw [S.other d (by omega)]
     exact t4 x h3 h4 fun a ha hne=>h5 a ha (by omega)
    ·have Q:=hI.told d x ⟨h3,h4⟩
     refine S.fin d x (by omega) (by omega) (by rw [T.other d e]; exact h3) h4 fun a ha h=>?_
     by_cases e2:a = c
     ·subst e2
      have:=T.self (x.fBb - 1).toNat (by omega) (by rw [Q.2.2.2]; intro h; injection h with h; omega)
      omega
     ·exact Int.le_trans (h5 a (by omega) (by omega)) (T.up a)
  ·rw [turn_out hc]
   have S:=qG hp n (c:=c + 1) (false || b) A (by omega) (by omega)
   obtain ⟨m2,hm2,hl2⟩:=S.own
   have hn2:=S.now
   have hno:∀ (d:Nat) (o:Option KC),k.calls[d]? = some o->d < k.calls.length:=fun d o h=>(List.getElem?_eq_some_iff.1 h).1
   refine ⟨S.all,S.len,⟨m2,hm2,by omega⟩,S.up,S.lo,by show (KK.sweep n ((c + 1:Nat):Int) k (false || b)).1.now <= _; omega,fun d h=>?_,S.none_,?_,fun d h1 h2 h3=>by omega,fun d x h1 h2 h3 h4=>?_,fun d x h1 h2 h3 h4 h5=>?_⟩
   ·rcases h with h | h
    ·exact S.other d (by omega)
    ·exact S.other d (by omega)
   ·rw [S.busy]
    constructor
    ·rintro (h | ⟨d,x,h1,h2,h3⟩)
     ·exact .inl (by simpa using h)
     ·exact .inr ⟨d,x,by omega,by omega,h3⟩
    ·rintro (h | ⟨d,x,h1,h2,h3⟩)
     ·exact .inl (by simpa using h)
     ·have:=hno d _ h3; omega
   ·have:=hno d _ h3; omega
   ·have:=hno d _ h3; omega
structure Settled (P:KK->Prop) (cores:Nat) (k k':KK):Prop where
 all:P k'
 len:k'.calls.length = k.calls.length
 lo:k.now <= k'.now
 now:k'.now <= k.now + 3 * (cores * 5001)
 own:k'.fFa.1.length <= k.fFa.1.length + 3 * cores
 idle:∀ (d:Nat) x,k'.calls[d]? ≠ some (some x)
theorem settle_settled (hp:Closed P) {cores m:Nat} {k:KK} (A:P k) (hc:k.calls.length <= cores) (hc8:cores <= 8) (hl:k.fFa.1.length <= 4900) (hn:k.now < 2 ^ 34) (h9:∀ (d:Nat) x,k.calls[d]? = some (some x)->x.fc.e0 ≠ 9) :
  (KK.settle cores (m + 3) k).1 = true/\Settled P cores k (KK.settle cores (m + 3) k).2:=by
 have q1:cores * 5001 <= 8 * 5001:=Nat.mul_le_mul_right _ hc8
 have q2:((cores * 5001:Nat):Int) <= 8 * 5001:=by omega
 have q3:((cores * 5001:Nat):Int) = (cores:Int) * 5001:=by simp
 have inl:∀ {k:KK} {d:Nat} {o:Option KC},k.calls[d]? = some o->d < k.calls.length:=fun h=>(List.getElem?_eq_some_iff.1 h).1
 have none_of:∀ {k k':KK} {b b':Bool},Swept P cores 0 k k' b b'->k.calls.length <= cores->b' = false->∀ (d:Nat) x,k'.calls[d]? ≠ some (some x):=by
  intro k k' b b' S hk hb d x h
  have hd:=inl h
  have hk':=S.len
  rcases hcd:k.calls[d]? with _ | _ | y
  ·rw [List.getElem?_eq_none_iff] at hcd; omega
  ·rw [S.none_ d hcd] at h; cases h
  ·have:b' = true:=S.busy.2 (.inr ⟨d,y,Nat.zero_le _,by omega,hcd⟩)
   rw [hb] at this; cases this
 have S1:=qG hp cores (c:=0) (k:=k) false A (by omega) (by omega)
 rw [show m + 3 = (m + 2) + 1 from rfl,KK.settle]
 rw [show KK.sweep cores 0 k false = KK.sweep cores ((0:Nat):Int) k false from rfl]
 generalize KK.sweep cores ((0:Nat):Int) k false = z1 at *
 obtain ⟨k1,b1⟩:=z1
 dsimp only at *
 obtain ⟨m1,hm1,hl1⟩:=S1.own
 have hl1':k1.fFa.1.length <= k.fFa.1.length + cores:=by rw [hm1,List.length_append]; omega
 have n1:=S1.now
 by_cases hb1:b1 = false
 ·rw [if_pos hb1]
  exact ⟨rfl,S1.all,S1.len,S1.lo,by show k1.now <= _; omega,by show k1.fFa.1.length <= _; omega,none_of S1 hc hb1⟩
 ·rw [if_neg hb1]
  have len1:=S1.len
  have S2:=qG hp cores (c:=0) (k:=k1) false S1.all (by omega) (by omega)
  have all1:∀ (d:Nat) x,k1.calls[d]? = some (some x)->x.fPa = true/\∀ e,d < e->e < k1.calls.length->x.fBb <= fSa k1 e:=by
   intro d x h
   have hd:=inl h
   rcases hcd:k.calls[d]? with _ | _ | y
   ·rw [List.getElem?_eq_none_iff] at hcd; omega
   ·rw [S1.none_ d hcd] at h; cases h
   ·rcases S1.told d y (Nat.zero_le _) (by omega) hcd (h9 d y hcd) with h1 | ⟨z,h1,h2,h3,h4⟩
    ·rw [h1] at h; cases h
    ·rw [h1] at h; cases h
     exact ⟨h2,fun e he hl=>h4 e he (by omega) (by omega)⟩
  have idle2:∀ (d:Nat) x,(KK.sweep cores ((0:Nat):Int) k1 false).1.calls[d]? ≠ some (some x):=by
   intro d x h
   have hd:=inl h
   have len2:=S2.len
   rcases hcd:k1.calls[d]? with _ | _ | y
   ·rw [List.getElem?_eq_none_iff] at hcd; omega
   ·rw [S2.none_ d hcd] at h; cases h
   ·obtain ⟨g1,g2⟩:=all1 d y hcd
    have:=S2.fin d y (Nat.zero_le _) (by omega) hcd g1 fun e he hh=>g2 e (by omega) he
    rw [this] at h; cases h
  rw [show m + 2 = (m + 1) + 1 from rfl,KK.settle]
  rw [show KK.sweep cores 0 k1 false = KK.sweep cores ((0:Nat):Int) k1 false from rfl]
  obtain ⟨m2,hm2,hl2⟩:=S2.own
  have hl2':(KK.sweep cores ((0:Nat):Int) k1 false).1.fFa.1.length <= k1.fFa.1.length + cores:=by rw [hm2,List.length_append]; omega
  have n2:=S2.now
  have o1:=S1.lo
  have o2:=S2.lo
  have len2:=S2.len
  generalize KK.sweep cores ((0:Nat):Int) k1 false = z2 at *
  obtain ⟨k2,b2⟩:=z2
  dsimp only at *
  by_cases hb2:b2 = false
  ·rw [if_pos hb2]
   exact ⟨rfl,S2.all,by show k2.calls.length = _; omega,by show k.now <= k2.now; omega,by show k2.now <= _; omega,by show k2.fFa.1.length <= _; omega,idle2⟩
  ·rw [if_neg hb2]
   have S3:=qG hp cores (c:=0) (k:=k2) false S2.all (by omega) (by omega)
   rw [show m + 1 = m + 1 from rfl,KK.settle]
   rw [show KK.sweep cores 0 k2 false = KK.sweep cores ((0:Nat):Int) k2 false from rfl]
   obtain ⟨m3,hm3,hl3⟩:=S3.own
   have hl3':(KK.sweep cores ((0:Nat):Int) k2 false).1.fFa.1.length <= k2.fFa.1.length + cores:=by rw [hm3,List.length_append]; omega
   have n3:=S3.now
   have o3:=S3.lo
   have len3:=S3.len
   have hb3:(KK.sweep cores ((0:Nat):Int) k2 false).2 = false:=by
    cases hz:(KK.sweep cores ((0:Nat):Int) k2 false).2 with
    | false=>rfl
    | true =>
     rcases S3.busy.1 hz with h | ⟨d,x,_,_,h⟩
     ·cases h
     ·exact absurd h (idle2 d x)
   rw [if_pos hb3]
   exact ⟨rfl,S3.all,by show (KK.sweep cores ((0:Nat):Int) k2 false).1.calls.length = _; omega,by show k.now <= (KK.sweep cores ((0:Nat):Int) k2 false).1.now; omega,by show (KK.sweep cores ((0:Nat):Int) k2 false).1.now <= _; omega,by show (KK.sweep cores ((0:Nat):Int) k2 false).1.fFa.1.length <= _; omega,none_of S3 (by omega) hb3⟩
theorem IE.ended {k:KK} (A:IE k) (h:∀ (d:Nat) x,k.calls[d]? ≠ some (some x)):∀ e ∈ k.events,e.fXa ≠ 0/\e.fHa ≠ 0:=by
 intro e he
 obtain ⟨i,hi⟩:=List.getElem?_of_mem he
 have h0:e.fHa ≠ 0:=fun h0=>by
  obtain ⟨x,hx,_⟩:=A.ev.open_ i e hi h0
  exact h _ x hx
 rcases (A.ev.one i e hi).st with s | s
 ·exact absurd s.1 h0
 ·exact ⟨by rw [s.2.1]; exact h0,h0⟩
end
section
open Go Mb
theorem mem_othersFrom {k:PK} {es:List bm} {env pg j:Int}:∀ {L:List Int},j ∈ L->fLa.takes (fLa.ev es j) = true->PK.q (PK.do_ k (fLa.ev es j).fCa (fLa.ev es j).fKa).2 env pg ∈ fLa.fHb k es env pg L
 | i::L,h,ht=>by
  rw [fLa.fHb]
  rcases List.mem_cons.1 h with rfl | h
  ·rw [if_pos ht]; exact List.mem_cons_self
  ·have:=mem_othersFrom (k:=k) (env:=env) (pg:=pg) h ht
   split
   ·exact List.mem_cons_of_mem _ this
   ·exact this
theorem eqb_answer (a:eH):ab.eqb a a = true:=by simp [ab.eqb]
theorem eqb_line (a:jn):am.eqb a a = true:=by simp [am.eqb]
def xe (kind:Int):Int:=if kind = 20 then 1 else if kind = 21 then 2 else 3
theorem lets_need {kind:Int} (h:20 <= kind/\kind <= 23) (r:Int):ct r kind = aQ (xe kind) r:=by
 have:kind = 20\/kind = 21\/kind = 22\/kind = 23:=by omega
 rcases this with rfl | rfl | rfl | rfl <;> rfl
theorem left_frame {p:PK} {x:KC} {a pg:Int} {qq:Pte} (h:(KK.left p x a pg qq).fBa ≠ 0):(KK.left p x a pg qq).fEa = qq.fEa/\(KK.left p x a pg qq).fDa = qq.fDa:=by
 unfold KK.left at h ⊢
 by_cases h7:x.fc.e0 = 7
 ·rw [if_pos h7] at h ⊢
  split
  ·rename_i hh; rw [if_pos hh] at h; exact absurd rfl h
  ·exact ⟨rfl,rfl⟩
 ·rw [if_neg h7] at h ⊢
  by_cases h8:x.fc.e0 = 8
  ·rw [if_pos h8]; split <;> exact ⟨rfl,rfl⟩
  ·rw [if_neg h8] at h ⊢
   split
   ·rename_i hh; rw [if_pos hh] at h; exact absurd rfl h
   ·exact ⟨rfl,rfl⟩
theorem wX {p:PK} {a pg:Int}:∀ (cs:List (Option KC)) (qq:Pte),KK.fEb p a pg cs false qq = (qq,false)
 | [],_=>rfl
 | none::cs,qq=>by rw [KK.fEb]; exact wX cs qq
 | some x::cs,qq=>by rw [KK.fEb,if_neg (fun h=>Bool.false_ne_true h.1)]; exact wX cs qq
theorem uq {p:PK} {a pg:Int}:∀ (cs:List (Option KC)) (b:Bool) (qq:Pte),(KK.fEb p a pg cs b qq).1.fBa ≠ 0->(KK.fEb p a pg cs b qq).1.fEa = qq.fEa/\(KK.fEb p a pg cs b qq).1.fDa = qq.fDa
 | [],_,_,_=>⟨rfl,rfl⟩
 | none::cs,b,qq,h=>by rw [KK.fEb] at h ⊢; exact uq cs b qq h
 | some x::cs,b,qq,h=>by
  rw [KK.fEb] at h ⊢
  by_cases hc:b = true/\x.fPa = true
  ·rw [if_pos hc] at h ⊢
   by_cases hz:(KK.left p x a pg qq).fBa = 0
   ·rw [hz] at h
    have:((0:Int) != 0) = false:=rfl
    rw [this,wX] at h
    exact absurd hz h
   ·obtain ⟨a1,a2⟩:=uq cs _ _ h
    obtain ⟨b1,b2⟩:=left_frame hz
    exact ⟨a1.trans b1,a2.trans b2⟩
  ·rw [if_neg hc] at h ⊢; exact uq cs b qq h
theorem put_well {p:Pte} (h:0 <= p.fEa/\p.fEa < 16/\0 <= p.fDa/\p.fDa < 8) (hr:1 <= p.fBa/\p.fBa <= 3):(eQ p).2 = true:=by
 unfold eQ
 cases hq:an.eqb p ⟨0,0,0⟩ with
 | true=>rfl
 | false =>
  have:(((((decide (p.fEa < 0)) || (decide (p.fEa >= 16))) || (decide (p.fDa < 0))) || (decide (p.fDa >= 8))) || (!(ch p.fBa))) = false:=by
   rw [uB.2 hr]; simp; omega
  simp only [cond_false]
  rw [this]; rfl
theorem tabFor_seen {k:KK} (F:PK.Fine k.p) {e pg:Int} {l:jn} (hs:(KK.seen k e pg).2 = true) (hc:Cov (KK.seen k e pg).1 l) (hq:(PK.q k.p e pg).fBa ≠ 0):(Table.get (KK.fGb k e pg) pg).1 = (KK.seen k e pg).1:=by
 have hr:=hc.r
 have hfs:(KK.seen k e pg).1.fEa = (PK.q k.p e pg).fEa/\(KK.seen k e pg).1.fDa = (PK.q k.p e pg).fDa:=by
  have h0:(KK.seen k e pg).1.fBa ≠ 0:=by omega
  unfold KK.seen at h0 ⊢
  exact uq _ _ _ h0
 have hb:=F.by_ e pg hq
 have hcap:(fAa.get k.p.caps e (PK.q k.p e pg).fDa).fBa ≠ 0:=by have:=(df hb.2.2).2; omega
 have hf:=PK.fine_frame F.ok.fine hb.1 hcap
 have hsl:=(PK.has_iff F.ok).1 hb.1
 have hsz:=fA.1 F.ok.sz
 obtain ⟨_,hg,_⟩:=PK.q_on hq
 have hpg:bu pg = true:=by
  by_cases hh:bu pg = true/\(Table.at_ (PK.tab k.p e) pg).fBa ≠ 0
  ·exact hh.1
  ·rw [Table.get_no hh] at hg; cases hg
 have hz:(Table.insert (List.replicate 8 dc) pg (KK.seen k e pg).1).1 = 0:=by
  unfold Table.insert
  have key:∀ n,n < 8->((List.replicate 8 dc).getD n dc).fBa = 0:=by decide
  obtain ⟨n,e1,hn⟩:=mQ hpg
  have hat:(Table.at_ (List.replicate 8 dc) pg).fBa = 0:=by unfold Table.at_; rw [e1,Int.toNat_natCast]; exact key n hn
  rw [if_neg,if_neg (by rw [hat]; simp)]
  rw [put_well (by rw [hfs.1,hfs.2,← hb.2.1]; omega) hr,hpg]
  simp; omega
 unfold KK.fGb
 rw [if_pos hs,Table.get_insert (by simp) _ _ hz,if_pos rfl]
theorem stay_of_aft {p:PK} {e:Int} {c:da} {a pg r:Int} (hq:(PK.q p a pg).fBa ≠ 0) (ht:Tk c) (h:aQ r (PK.aft p e c a pg).fBa = true):Stay p e c a pg (PK.q p a pg).fDa r:=by
 have hno:∀ x:Pte,x = dc->aQ r x.fBa = true->False:=fun x e1 h1=>by
  have:=(df h1).2; rw [e1] at this; simp at this
 unfold PK.aft at h
 refine ⟨fun h7 ho=>?_,fun h8 e1 e2 hw=>?_,fun h45=>?_⟩
 ·rw [if_pos h7,if_pos ho] at h; exact hno _ rfl h
 ·rw [if_neg (by omega),if_pos h8,if_pos ⟨⟨e1,e2⟩,by subst e1; subst e2; exact ⟨hq,hw⟩⟩] at h
  exact h
 ·cases hg:PK.gz p e c a (PK.q p a pg).fDa with
  | false=>rfl
  | true=>rw [if_neg (by omega),if_neg (by omega),if_pos ⟨hq,hg⟩] at h; exact (hno _ rfl h).elim
theorem kmem_has {fs:List (List Int)} {f a:Int} (h0:0 <= f) (h1:f < fs.length) (h2:0 <= a) (h3:a < 16):Mem.has fs f a:=⟨h0,h1,h2,h3⟩
theorem touch_well {k:PK} (ok:PK.Ok k) {f:Int} {c:da} (cw:Cw c) (w:Well k.s.fIa c) (hu:20 <= c.e0) (h0:0 <= f) (h1:f < k.s.fAb):(PK.touch k f c).1.2 = true/\(PK.touch k f c).1.1.fWa = 0:=by
 have hk:=tn w.kind
 have h2:=w.w7 hu
 have harg:Word.arg c 2 16 = (c.e2,true):=by
  have h3:(Word.arg c 2 16).2 = true:=(arg_of (by decide) (by decide) (by decide) (by decide)).2 h2
  unfold Word.arg at h3 ⊢
  split
  ·rename_i hh; rw [if_pos hh] at h3; cases h3
  ·show (IntKind.i64.wrap c.e2,true) = _
   rw [kwr cw.c2 h2]
 have hml:=ok.ml
 have hm:Mem.has k.m f c.e2:=kmem_has h0 (by omega) cw.c2 h2
 have hu':bA c.e0 = true:=by unfold bA; have:=w.kind; simp; omega
 have hld:(Mem.load k.m f c.e2).2 = true:=by unfold Mem.load; rw [if_pos hm]
 have hst:∀ v,(Mem.store k.m f c.e2 v).1 = true:=fun v=>by unfold Mem.store; rw [if_pos hm]
 unfold PK.touch
 rw [hk,harg]
 simp only
 rw [if_neg (by rw [hu']; simp)]
 repeat' split
 ·exact ⟨hld,rfl⟩
 ·exact ⟨hst _,rfl⟩
 ·refine ⟨?_,rfl⟩
  unfold Mem.cas; split <;> exact hld
 ·refine ⟨?_,rfl⟩
  unfold Mem.add; exact hld
theorem walk_cov {k:KK} (I:fo k) {c:Nat} (hc:c < k.calls.length) {x:KC} (h:(KK.fCb k c x).1.2 = true) (hkind:20 <= IntKind.i64.wrap x.fc.e0/\IntKind.i64.wrap x.fc.e0 <= 23):Cov (PK.q k.p x.fGa (IntKind.i64.wrap x.fc.e1)) (KK.fCb k c x).1.1/\(KK.fCb k c x).1.1.fCa = x.fGa/\(KK.fCb k c x).1.1.fOa = IntKind.i64.wrap x.fc.e1/\ct (KK.fCb k c x).1.1.fBa (IntKind.i64.wrap x.fc.e0) = true:=by
 unfold KK.fCb at h ⊢
 rw [kbuf_nat] at h ⊢
 unfold User.walk at h ⊢
 split
 ·rename_i hf
  have f:=Tlb.find_in (I.tok c hc) hf.1
  have L:=I.line c hc _ f.1 (by rw [f.2.1]; exact f.2.2.2)
  have hcov:=L.cov
  rw [f.2.1,f.2.2.1] at hcov
  exact ⟨hcov,f.2.1,f.2.2.1,hf.2⟩
 ·rename_i hnf
  rw [if_neg hnf] at h
  split
  ·rename_i hl; rw [if_pos hl] at h; cases h
  ·rename_i hl
   have hl':ct (Table.get (KK.fGb k x.fGa (IntKind.i64.wrap x.fc.e1)) (IntKind.i64.wrap x.fc.e1)).1.fBa (IntKind.i64.wrap x.fc.e0) = true:=by simpa using hl
   have hr:=(df ((lets_need hkind _) ▸ hl')).2
   obtain ⟨s1,s2⟩:=tabFor_get k x.fGa (IntKind.i64.wrap x.fc.e1) (by omega)
   refine ⟨?_,rfl,rfl,hl'⟩
   have hcov:Cov (KK.seen k x.fGa (IntKind.i64.wrap x.fc.e1)).1 (⟨x.fGa,IntKind.i64.wrap x.fc.e1,(Table.get (KK.fGb k x.fGa (IntKind.i64.wrap x.fc.e1)) (IntKind.i64.wrap x.fc.e1)).1.fEa,(Table.get (KK.fGb k x.fGa (IntKind.i64.wrap x.fc.e1)) (IntKind.i64.wrap x.fc.e1)).1.fBa⟩:jn):=by
    refine ⟨?_,?_⟩
    ·show (KK.seen k x.fGa (IntKind.i64.wrap x.fc.e1)).1.fEa = (Table.get (KK.fGb k x.fGa (IntKind.i64.wrap x.fc.e1)) (IntKind.i64.wrap x.fc.e1)).1.fEa
     rw [s2]
    ·show aQ (Table.get (KK.fGb k x.fGa (IntKind.i64.wrap x.fc.e1)) (IntKind.i64.wrap x.fc.e1)).1.fBa (KK.seen k x.fGa (IntKind.i64.wrap x.fc.e1)).1.fBa = true
     rw [← s2]; exact within_refl hr
   exact ((seen_cov I.en I.F I.tell_all _ _ _).1 ⟨s1,hcov⟩).1
theorem walk_fault {k:KK} (I:fo k) {c:Nat} {x:KC} (h:(KK.fCb k c x).1.2 = false) (hkind:20 <= IntKind.i64.wrap x.fc.e0/\IntKind.i64.wrap x.fc.e0 <= 23):ct (PK.q k.p x.fGa (IntKind.i64.wrap x.fc.e1)).fBa (IntKind.i64.wrap x.fc.e0) = false\/∃ d y,Tells k d y/\ct (PK.q (PK.do_ k.p y.fGa y.fc).2 x.fGa (IntKind.i64.wrap x.fc.e1)).fBa (IntKind.i64.wrap x.fc.e0) = false:=by
 have hl:ct (Table.get (KK.fGb k x.fGa (IntKind.i64.wrap x.fc.e1)) (IntKind.i64.wrap x.fc.e1)).1.fBa (IntKind.i64.wrap x.fc.e0) = false:=by
  unfold KK.fCb User.walk at h
  split at h
  ·cases h
  ·split at h
   ·rename_i hh; exact hh
   ·cases h
 rw [lets_need hkind] at hl ⊢
 cases hq:aQ (xe (IntKind.i64.wrap x.fc.e0)) (PK.q k.p x.fGa (IntKind.i64.wrap x.fc.e1)).fBa with
 | false=>exact .inl rfl
 | true =>
  right
  have hne:(PK.q k.p x.fGa (IntKind.i64.wrap x.fc.e1)).fBa ≠ 0:=by have:=(df hq).2; omega
  by_cases hall:∀ y,some y ∈ k.calls->y.fPa = true->Stay k.p y.fGa y.fc x.fGa (IntKind.i64.wrap x.fc.e1) (PK.q k.p x.fGa (IntKind.i64.wrap x.fc.e1)).fDa (xe (IntKind.i64.wrap x.fc.e0))
  ·exfalso
   obtain ⟨s1,s2⟩:=(seen_cov I.en I.F I.tell_all x.fGa (IntKind.i64.wrap x.fc.e1) (⟨x.fGa,IntKind.i64.wrap x.fc.e1,(PK.q k.p x.fGa (IntKind.i64.wrap x.fc.e1)).fEa,xe (IntKind.i64.wrap x.fc.e0)⟩:jn)).2 ⟨⟨rfl,hq⟩,hall⟩
   rw [tabFor_seen I.F s1 s2 hne,s2.w] at hl
   cases hl
  ·simp only [Classical.not_forall] at hall
   obtain ⟨y,hy,hty,hns⟩:=hall
   obtain ⟨d,hd⟩:=calls_mem hy
   refine ⟨d,y,⟨hd,hty⟩,?_⟩
   have T:=I.teller ⟨hd,hty⟩
   have hcs:=I.ok.cs y hy
   rw [lets_need hkind,PK.do_q I.F T.w (PK.off_iff.2 ⟨hcs.2.2.1,hcs.2.2.2⟩) T.k T.t]
   cases ha:aQ (xe (IntKind.i64.wrap x.fc.e0)) (PK.aft k.p y.fGa y.fc x.fGa (IntKind.i64.wrap x.fc.e1)).fBa with
   | false=>rfl
   | true=>exact absurd (stay_of_aft hne T.t ha) hns
theorem access_good {k:KK} (I:fo k) {c:Nat} (hc:c < k.calls.length) {x:KC} (hx:k.calls[c]? = some (some x)) (hu:bA (az x.fc).1 = true) {es:List bm} {e:bm} (h1:e.fKa = x.fc) (h2:e.fCa = x.fGa) (h3:e.fYa = (KK.access k c x).1.1) (h4:e.fTa = (KK.access k c x).1.2)
  (hov:∀ d y,Tells k d y->y.fat ∈ Hist.over es e.fHa/\(fLa.ev es y.fat).fKa = y.fc/\(fLa.ev es y.fat).fCa = y.fGa):fLa.access k.p es k.p.s e = true/\(if fLa.well k.p.s e = true then (PK.touch k.p e.fTa.fEa e.fKa).2 else k.p) = (KK.access k c x).2.p:=by
 have cw:=I.cw c x hx
 unfold fLa.access fLa.well
 rw [h1,h2,h3,h4]
 unfold KK.access
 by_cases hk:Word.check x.fc k.p.s.fIa ≠ 0
 ·rw [if_pos hk,if_pos hk]
  simp only
  refine ⟨by rw [eqb_answer,eqb_line]; rfl,?_⟩
  have:(Word.check x.fc k.p.s.fIa == 0) = false:=by simpa using hk
  rw [this]; simp
 ·rw [if_neg hk,if_neg hk]
  have hk0:Word.check x.fc k.p.s.fIa = 0:=by simpa using hk
  have w:=tP I.en.1 I.en.2 hk0
  have hkv:=tn w.kind
  have hu0:20 <= x.fc.e0/\x.fc.e0 <= 23:=by rw [hkv] at hu; unfold bA at hu; simpa using hu
  have hw0:=PK.w0 w
  have hkind:20 <= IntKind.i64.wrap x.fc.e0/\IntKind.i64.wrap x.fc.e0 <= 23:=by rw [hw0]; exact hu0
  by_cases hf:(KK.fCb k c x).1.2 = false
  ·rw [if_pos hf]
   simp only [if_true]
   refine ⟨?_,by simp⟩
   rw [eqb_line]
   have hfa:fLa.faults e (fLa.others k.p es e.fHa x.fGa (IntKind.i64.wrap x.fc.e1)) = true:=by
    unfold fLa.faults fLa.others
    rw [h1,List.any_eq_true]
    rcases walk_fault I hf hkind with h | ⟨d,y,hy,h⟩
    ·exact ⟨_,List.mem_cons_self,by show (!(ct (PK.q k.p x.fGa (IntKind.i64.wrap x.fc.e1)).fBa _)) = true; rw [h]; rfl⟩
    ·obtain ⟨o1,o2,o3⟩:=hov d y hy
     have T:=I.teller hy
     have htk:fLa.takes (fLa.ev es y.fat) = true:=by
      have wy:=tP I.en.1 I.en.2 T.k
      have:=T.t
      unfold fLa.takes
      rw [o2,tn wy.kind]
      unfold Tk at this
      rcases this with h | h | h | h <;> simp [h]
     have hm:=mem_othersFrom (k:=k.p) (env:=x.fGa) (pg:=IntKind.i64.wrap x.fc.e1) o1 htk
     rw [o2,o3] at hm
     exact ⟨_,List.mem_cons_of_mem _ hm,by rw [h]; rfl⟩
   rw [hfa]; rfl
  ·rw [if_neg hf]
   have hf':(KK.fCb k c x).1.2 = true:=by simpa using hf
   obtain ⟨cv,e1,e2,e3⟩:=walk_cov I hc hf' hkind
   have hne:(PK.q k.p x.fGa (IntKind.i64.wrap x.fc.e1)).fBa ≠ 0:=by have:=cv.r; omega
   have hb:=I.F.by_ _ _ hne
   have hcap:(fAa.get k.p.caps x.fGa (PK.q k.p x.fGa (IntKind.i64.wrap x.fc.e1)).fDa).fBa ≠ 0:=by have:=(df hb.2.2).2; omega
   have hfr:=PK.fine_frame I.F.ok.fine hb.1 hcap
   rw [hb.2.1,cv.f] at hfr
   obtain ⟨t1,t2⟩:=touch_well I.F.ok cw w hu0.1 hfr.1 hfr.2
   have hlr:=(df cv.w).1
   simp only
   rw [t2,if_neg (by decide)]
   have hgo:fLa.goes e (fLa.others k.p es e.fHa x.fGa (IntKind.i64.wrap x.fc.e1)) = true:=by
    unfold fLa.goes fLa.others
    rw [h4,List.any_eq_true]
    refine ⟨_,List.mem_cons_self,?_⟩
    unfold KK.access
    rw [if_neg hk,if_neg hf]
    show ((PK.q k.p x.fGa (IntKind.i64.wrap x.fc.e1)).fEa == _ && _) = true
    rw [cv.f]
    show ((_ == _) && aQ _ (PK.q k.p x.fGa (IntKind.i64.wrap x.fc.e1)).fBa) = true
    rw [cv.w]; simp
   have hown:fLa.own e = true:=by
    unfold fLa.own
    rw [h1,h2,h4]
    unfold KK.access
    rw [if_neg hk,if_neg hf]
    simp only
    rw [e1,e2,e3]; simp
   rw [hgo,hown,t1,eqb_answer,hk0]
   refine ⟨rfl,?_⟩
   rw [if_pos]
   simp; omega
end
section
open Go Mb
namespace fLa
def jstep (es:List bm) (s:fD) (k:PK) (i:Int):PK:=if ft (ev es i) = true then (if well s (ev es i) = true then (PK.touch k (ev es i).fTa.fEa (ev es i).fKa).2 else k) else (PK.do_ k (ev es i).fCa (ev es i).fKa).2
def good (es:List bm) (s:fD) (k:PK) (i:Int):Prop:=(ft (ev es i) = true->access k es s (ev es i) = true)/\(ft (ev es i) = false->(PK.do_ k (ev es i).fCa (ev es i).fKa).1.2 = true/\(PK.do_ k (ev es i).fCa (ev es i).fKa).1.1 = (ev es i).fYa)
def Good (es:List bm) (s:fD):PK->List Int->Prop
 | _,[]=>True
 | k,i::l=>good es s k i/\Good es s (jstep es s k i) l
def jrun (es:List bm) (s:fD):PK->List Int->PK
 | k,[]=>k
 | k,i::l=>jrun es s (jstep es s k i) l
theorem run_good {es:List bm} {s:fD} (lin acc:Bool):∀ {l:List Int} {k:PK},Good es s k l->runFrom es s lin acc k l = (-1,true)
 | [],_,_=>rfl
 | i::l,k,⟨g,h⟩=>by
  have ih:=run_good lin acc h
  rw [runFrom]
  unfold jstep at ih
  by_cases hu:ft (ev es i) = true
  ·rw [if_pos hu] at ih ⊢
   rw [if_neg (by rw [g.1 hu]; simp)]
   exact ih
  ·rw [if_neg hu] at ih ⊢
   have g2:=g.2 (by simpa using hu)
   rw [if_neg,ih]
   rintro ⟨_,h1 | h1⟩
   ·rw [g2.1] at h1; cases h1
   ·rw [g2.2,eqb_answer] at h1; cases h1
theorem Good_app {es:List bm} {s:fD} {i:Int}:∀ {l:List Int} {k:PK},Good es s k l->good es s (jrun es s k l) i->Good es s k (l++[i])
 | [],_,_,g=>⟨g,trivial⟩
 | _::_,_,⟨a,b⟩,g=>⟨a,Good_app b g⟩
theorem jrun_app {es:List bm} {s:fD} {i:Int}:∀ {l:List Int} {k:PK},jrun es s k (l++[i]) = jstep es s (jrun es s k l) i
 | [],_=>rfl
 | _::l,_=>jrun_app (l:=l)
structure Alike (es es':List bm) (i:Int):Prop where
 e:ev es' i = ev es i
 o:Hist.over es' (ev es i).fHa = Hist.over es (ev es i).fHa
 c:∀ j ∈ Hist.over es (ev es i).fHa,(ev es' j).fKa = (ev es j).fKa/\(ev es' j).fCa = (ev es j).fCa
theorem vM {k:PK} {es es':List bm} {env pg:Int}:∀ {L:List Int},(∀ j ∈ L,(ev es' j).fKa = (ev es j).fKa/\(ev es' j).fCa = (ev es j).fCa)->fHb k es' env pg L = fHb k es env pg L
 | [],_=>rfl
 | i::L,h=>by
  have h1:=h i (by simp)
  have ih:=vM (k:=k) (env:=env) (pg:=pg) (L:=L) (fun j hj=>h j (by simp [hj]))
  have ht:takes (ev es' i) = takes (ev es i):=by unfold takes; rw [h1.1]
  rw [fHb,fHb,ht,h1.1,h1.2,ih]
theorem Alike.access {es es':List bm} {i:Int} (A:Alike es es' i) (k:PK) (s:fD):access k es' s (ev es' i) = access k es s (ev es i):=by
 have ho:others k es' (ev es i).fHa (ev es i).fCa (IntKind.i64.wrap (ev es i).fKa.e1) = others k es (ev es i).fHa (ev es i).fCa (IntKind.i64.wrap (ev es i).fKa.e1):=by
  unfold others
  rw [A.o,vM A.c]
 unfold fLa.access
 rw [A.e,ho]
theorem Alike.good {es es':List bm} {i:Int} (A:Alike es es' i) {k:PK} {s:fD} (g:good es s k i):good es' s k i:=by
 have h:=A.access k s
 unfold fLa.good at g ⊢
 rw [h,A.e]; exact g
theorem Alike.jstep {es es':List bm} {i:Int} (A:Alike es es' i) (k:PK) (s:fD):jstep es' s k i = jstep es s k i:=by
 unfold fLa.jstep; rw [A.e]
theorem Good_alike {es es':List bm} {s:fD}:∀ {l:List Int} {k:PK},(∀ i ∈ l,Alike es es' i)->Good es s k l->Good es' s k l/\jrun es' s k l = jrun es s k l
 | [],_,_,_=>⟨trivial,rfl⟩
 | i::l,k,h,⟨a,b⟩=>by
  have A:=h i (by simp)
  obtain ⟨h1,h2⟩:=Good_alike (l:=l) (fun j hj=>h j (by simp [hj])) b
  have ej:=A.jstep k s
  refine ⟨⟨A.good a,by rw [ej]; exact h1⟩,?_⟩
  rw [jrun,jrun,ej]; exact h2
end fLa
theorem ev_get {es:List bm} {n:Nat} {e:bm} (h:es[n]? = some e):fLa.ev es n = e:=by simp [fLa.ev,h]
theorem placesFrom_set (P:bm->Bool):∀ (es:List bm) (n:Nat) (d e:bm) (i:Int),es[n]? = some d->P e = P d->Hist.fFb P (es.set n e) i = Hist.fFb P es i
 | [],_,_,_,_,h,_=>by simp at h
 | a::es,0,d,e,i,h,hp=>by
  simp at h; subst h
  rw [List.set_cons_zero,Hist.fFb,Hist.fFb,hp]
 | a::es,n + 1,d,e,i,h,hp=>by
  rw [List.set_cons_succ,Hist.fFb,Hist.fFb,placesFrom_set P es n d e (i + 1) (by simpa using h) hp]
theorem uS (P:bm->Bool):∀ (es:List bm) (i:Int),(Hist.fFb P es i).Nodup
 | [],_=>.nil
 | e::es,i=>by
  rw [Hist.fFb]
  split
  ·refine List.nodup_cons.2 ⟨fun h=>?_,uS P es (i + 1)⟩
   obtain ⟨n,_,_,h2,_⟩:=Hist.mem_placesFrom.1 h
   omega
  ·exact uS P es (i + 1)
structure Log (k:KK) (log:List Int):Prop where
 mem:∀ i,i ∈ log↔∃ (n:Nat) (e:bm),k.events[n]? = some e/\i = n/\e.fHa > 0
 up:log.Pairwise (fun a b=>Hist.eff k.events a < Hist.eff k.events b)
 good:fLa.Good k.events k.p.s (PK.new k.p.s) log
 run:fLa.jrun k.events k.p.s (PK.new k.p.s) log = k.p
theorem Log.nodup {k:KK} {log:List Int} (L:Log k log):log.Nodup:=L.up.imp (fun h e=>by rw [e] at h; exact absurd h (Int.lt_irrefl _))
theorem jm.apart {k:KK} (E:jm k):Hist.Apart k.events:=by
 intro a b ha hb he
 obtain ⟨n,d,h1,rfl,h2⟩:=Hist.mem_places.1 ha
 obtain ⟨m,e,h3,rfl,h4⟩:=Hist.mem_places.1 hb
 rw [Hist.eff_nat h1,Hist.eff_nat h3] at he
 have:=E.ef n m d e h1 h3 (by simpa using h2) he
 rw [this]
theorem Log.order {k:KK} {log:List Int} (E:jm k) (L:Log k log):log = Hist.order k.events:=by
 refine Hist.order_of E.apart ?_ (L.up.imp (fun h=>Int.le_of_lt h))
 refine (List.perm_ext_iff_of_nodup L.nodup (uS _ _ _)).2 fun i=>?_
 rw [L.mem]
 show _↔i ∈ Hist.places _ _
 rw [Hist.mem_places]
 simp
theorem log_new (s:fD):Log (KK.new s) []:=by
 refine ⟨fun i=>?_,.nil,trivial,rfl⟩
 simp [KK.new]
theorem Log.same {k k':KK} {log:List Int} (L:Log k log) (he:k'.events = k.events) (hp:k'.p = k.p):Log k' log:=by
 obtain ⟨a,b,c,d⟩:=L
 exact ⟨fun i=>by rw [he]; exact a i,by rw [he]; exact b,by rw [he,hp]; exact c,by rw [he,hp]; exact d⟩
theorem jm.mayFrom {k:KK} (E:jm k):∀ (n:Nat) (es:List bm),k.events.drop n = es->∀ (last:Int) (seen:List Int) (ends:List (Int × Int)),
  (∀ i e,i < n->k.events[i]? = some e->e.fRa <= last\/n = 0)->(n = 0->last = 0)->(0 < n->∃ e,k.events[n - 1]? = some e/\last = e.fRa) ->
  (∀ x ∈ seen,∃ (i:Nat) (e:bm),i < n/\k.events[i]? = some e/\x = e.fHa) ->
  (∀ c v,Hist.endOf ends c = some v->∃ (i:Nat) (e:bm),i < n/\k.events[i]? = some e/\e.fQa = c/\v = e.fXa)->Hist.mayFrom k.p.s es last seen ends = true
 | _,[],_,_,_,_,_,_,_,_,_=>rfl
 | n,e::es,hd,last,seen,ends,h1,h2,h3,h4,h5=>by
  have hn:k.events[n]? = some e:=by
   have:=congrArg (fun l=>l[0]?) hd
   simpa using this
  have o:=E.one n e hn
  have hlast:last < e.fRa:=by
   rcases Nat.eq_zero_or_pos n with h0 | h0
   ·rw [h2 h0]; have:=o.b0; omega
   ·obtain ⟨d,hd1,rfl⟩:=h3 h0
    exact E.up (n - 1) n d e (by omega) hd1 hn
  have hone:eI e k.p.s last = true:=by
   unfold eI
   have c1:(((((decide (e.fQa < 0)) || (decide (e.fQa >= k.p.s.fVa))) || (decide (e.fCa < 0))) || (decide (e.fCa >= k.p.s.fIa))) || (decide (e.fRa <= last))) = false:=by
    have:=o.c0; have:=o.c1; have:=o.v0; have:=o.v1
    simp; omega
   rw [c1]
   simp only [cond_false]
   rcases o.st with s | s
   ·simp [s.1,s.2]
   ·have hb:=o.b0
    have:(e.fHa == 0) = false:=by simp; omega
    rw [this]
    simp only [cond_false]
    simp; omega
  rw [Hist.mayFrom]
  rw [if_neg]
  ·rw [if_neg]
   ·refine jm.mayFrom E (n + 1) es ?_ e.fRa _ _ (fun i d hi hd1=>?_) (fun h=>by omega) (fun _=>⟨e,by simpa using hn,rfl⟩) (fun x hx=>?_) (fun c v hv=>?_)
    ·rw [← List.drop_drop,hd]; rfl
    ·left
     rcases Nat.lt_or_ge i n with h | h
     ·exact Int.le_of_lt (E.up i n d e h hd1 hn)
     ·have:i = n:=by omega
      subst this; rw [hn] at hd1; cases hd1; exact Int.le_refl _
    ·rcases List.mem_cons.1 hx with rfl | hx
     ·exact ⟨n,e,by omega,hn,rfl⟩
     ·obtain ⟨i,d,a1,a2,a3⟩:=h4 x hx
      exact ⟨i,d,by omega,a2,a3⟩
    ·unfold Hist.endOf at hv
     rw [List.find?_cons] at hv
     by_cases hc:(e.fQa == c) = true
     ·rw [hc] at hv
      simp at hv
      exact ⟨n,e,by omega,hn,by simpa using hc,hv.symm⟩
     ·have hc':(e.fQa == c) = false:=by simpa using hc
      rw [hc'] at hv
      obtain ⟨i,d,a1,a2,a3⟩:=h5 c v hv
      exact ⟨i,d,by omega,a2,a3⟩
   ·unfold Hist.stops
    split
    ·rename_i v hv
     obtain ⟨i,d,a1,a2,a3,rfl⟩:=h5 _ _ hv
     have:=E.co i n d e a1 a2 hn a3
     simp; omega
    ·simp
  ·rintro (h | ⟨h,hm⟩)
   ·rw [hone] at h; cases h
   ·obtain ⟨i,d,a1,a2,a3⟩:=h4 _ hm
    have:=E.ef n i e d hn a2 h a3
    omega
theorem jm.may {k:KK} (E:jm k):Hist.may k.events k.p.s = true :=
 E.mayFrom 0 k.events rfl 0 [] [] (fun i e h=>by omega) (fun _=>rfl) (fun h=>by omega) (fun x hx=>by cases hx) (fun c v hv=>by cases hv)
theorem right_of {k:KK} {log:List Int} (E:jm k) (L:Log k log):fLa.right k.events k.p.s = true/\fLa.linear k.events k.p.s = (-1,true)/\fLa.accesses k.events k.p.s = (-1,true):=by
 have h:∀ a b,fLa.run k.events k.p.s a b = (-1,true):=fun a b=>by
  unfold fLa.run
  rw [if_pos E.may,← L.order E]
  exact fLa.run_good a b L.good
 refine ⟨?_,h true false,h false true⟩
 unfold fLa.right fLa.linear fLa.accesses
 rw [h,h]; rfl
end
section
open Go Mb
theorem ev_set {es:List bm} {n:Nat} {e0 e':bm} (h:es[n]? = some e0) (j:Int):fLa.ev (es.set n e') j = if j.toNat = n then e' else fLa.ev es j:=by
 have hlt:=(List.getElem?_eq_some_iff.1 h).1
 simp only [fLa.ev,List.getD_eq_getElem?_getD,List.getElem?_set]
 by_cases e:n = j.toNat
 ·rw [if_pos e,if_pos e.symm,if_pos hlt]; rfl
 ·rw [if_neg e,if_neg (fun x=>e x.symm)]
theorem Log.effect {k k':KK} {log:List Int} (L:Log k log) {n:Nat} {e0:bm} {a:eH} {l:jn} (h0:k.events[n]? = some e0) (hz:e0.fHa = 0) (hlate:∀ (i:Nat) e,k.events[i]? = some e->e.fRa < k.now/\e.fHa < k.now) (hn:0 < k.now)
  (he:k'.events = k.events.set n (KK.evend e0 k.now a l)) (hs:k'.p.s = k.p.s) (hg:fLa.good k'.events k.p.s k.p n) (hj:fLa.jstep k'.events k.p.s k.p n = k'.p):Log k' (log++[(n:Int)]):=by
 have hlt:=(List.getElem?_eq_some_iff.1 h0).1
 have hev:=fun j=>ev_set (e':=KK.evend e0 k.now a l) h0 j
 have alike:∀ i ∈ log,fLa.Alike k.events k'.events i:=by
  intro i hi
  obtain ⟨m,e,g1,rfl,g2⟩:=(L.mem i).1 hi
  have hmn:m ≠ n:=by rintro rfl; rw [h0] at g1; cases g1; omega
  have hl:=hlate m e g1
  rw [he]
  refine ⟨by rw [hev,if_neg (by simpa using hmn)],?_,fun j _=>?_⟩
  ·rw [ev_get g1]
   unfold Hist.over Hist.places
   refine placesFrom_set _ _ _ e0 _ _ h0 ?_
   show (decide (e0.fRa <= e.fHa) && (k.now == 0 || decide (k.now > e.fHa))) = (decide (e0.fRa <= e.fHa) && (e0.fHa == 0 || decide (e0.fHa > e.fHa)))
   rw [hz,decide_eq_true (show k.now > e.fHa from hl.2)]
   simp
  ·rw [hev]
   split
   ·rename_i hjn
    have:fLa.ev k.events j = e0:=by simp [fLa.ev,hjn,h0]
    rw [this]; exact ⟨rfl,rfl⟩
   ·exact ⟨rfl,rfl⟩
 obtain ⟨g1,g2⟩:=fLa.Good_alike alike L.good
 have heff:∀ i,Hist.eff k'.events i = if i.toNat = n then k.now else Hist.eff k.events i:=by
  intro i
  have:=hev i
  show (fLa.ev k'.events i).fHa = _
  rw [he,this]
  split <;> rfl
 have hin:∀ i ∈ log,i.toNat ≠ n/\Hist.eff k.events i < k.now:=by
  intro i hi
  obtain ⟨m,e,g1,rfl,g2⟩:=(L.mem i).1 hi
  refine ⟨fun h=>?_,by rw [Hist.eff_nat g1]; exact (hlate m e g1).2⟩
  rw [Int.toNat_natCast] at h
  subst h; rw [h0] at g1; cases g1; omega
 refine ⟨fun i=>?_,?_,?_,?_⟩
 ·rw [List.mem_append,List.mem_singleton,L.mem,he]
  constructor
  ·rintro (⟨m,e,a1,rfl,a2⟩ | rfl)
   ·have hmn:m ≠ n:=by rintro rfl; rw [h0] at a1; cases a1; omega
    exact ⟨m,e,by rw [List.getElem?_set,if_neg (fun h=>hmn h.symm)]; exact a1,rfl,a2⟩
   ·exact ⟨n,KK.evend e0 k.now a l,by rw [List.getElem?_set,if_pos rfl,if_pos hlt],rfl,hn⟩
  ·rintro ⟨m,e,a1,rfl,a2⟩
   rw [List.getElem?_set] at a1
   by_cases h:n = m
   ·exact .inr (by rw [h])
   ·rw [if_neg h] at a1; exact .inl ⟨m,e,a1,rfl,a2⟩
 ·refine List.pairwise_append.2 ⟨?_,List.pairwise_singleton _ _,fun x hx y hy=>?_⟩
  ·refine L.up.imp_of_mem fun {x y} hx hy hxy=>?_
   rw [heff,heff,if_neg (hin x hx).1,if_neg (hin y hy).1]; exact hxy
  ·rw [List.mem_singleton.1 hy,heff,heff,if_neg (hin x hx).1,if_pos (by simp)]
   exact (hin x hx).2
 ·rw [hs]
  refine fLa.Good_app g1 ?_
  rw [g2,L.run]; exact hg
 ·rw [hs,fLa.jrun_app,g2,L.run]; exact hj
theorem Log.begin {k:KK} {log:List Int} (L:Log k log) (E:jm k) {e0:bm} (hb:k.now < e0.fRa) (hz:e0.fHa = 0) {k':KK} (he:k'.events = k.events++[e0]) (hp:k'.p = k.p):Log k' log:=by
 have alike:∀ i ∈ log,fLa.Alike k.events k'.events i:=by
  intro i hi
  obtain ⟨m,e,g1,rfl,g2⟩:=(L.mem i).1 hi
  have hm:=(List.getElem?_eq_some_iff.1 g1).1
  have hev:∀ j:Int,0 <= j->j < k.events.length->fLa.ev (k.events++[e0]) j = fLa.ev k.events j:=by
   intro j h0 h1
   simp only [fLa.ev,List.getD_eq_getElem?_getD]
   rw [List.getElem?_append_left (by omega)]
  rw [he]
  refine ⟨hev _ (by omega) (by omega),?_,fun j hj=>?_⟩
  ·rw [ev_get g1]
   unfold Hist.over Hist.places
   rw [Hist.placesFrom_app,if_neg,List.append_nil]
   have o:=E.one m e g1
   have:e.fHa <= k.now:=by
    rcases o.st with s | s
    ·have:=o.b0; have:=o.b1; omega
    ·exact s.2.2
   simp; omega
  ·have:=Hist.places_in hj
   rw [hev j this.1 this.2]; exact ⟨rfl,rfl⟩
 obtain ⟨g1,g2⟩:=fLa.Good_alike alike L.good
 have heff:∀ i ∈ log,Hist.eff k'.events i = Hist.eff k.events i:=fun i hi=>by
  show (fLa.ev k'.events i).fHa = (fLa.ev k.events i).fHa
  rw [(alike i hi).e]
 refine ⟨fun i=>?_,L.up.imp_of_mem fun {x y} hx hy hxy=>by rw [heff x hx,heff y hy]; exact hxy,by rw [hp]; exact g1,by rw [hp,g2]; exact L.run⟩
 rw [L.mem,he]
 constructor
 ·rintro ⟨m,e,a1,rfl,a2⟩
  exact ⟨m,e,by rw [List.getElem?_append_left (List.getElem?_eq_some_iff.1 a1).1]; exact a1,rfl,a2⟩
 ·rintro ⟨m,e,a1,rfl,a2⟩
  rcases Nat.lt_or_ge m k.events.length with h | h
  ·rw [List.getElem?_append_left h] at a1; exact ⟨m,e,a1,rfl,a2⟩
  ·rw [List.getElem?_append_right h] at a1
   by_cases e1:m - k.events.length = 0
   ·rw [e1] at a1
    simp at a1
    rw [← a1] at a2; omega
   ·rw [List.getElem?_eq_none (by simp; omega)] at a1; cases a1
structure All (k:KK):Prop extends IE k where
 lg:∃ log,Log k log
theorem all_new {s:fD} (h:PK.sized s = true):All (KK.new s):=⟨ie_new h,[],log_new s⟩
theorem All.begin {k:KK} (A:All k) (hn:k.now < 2 ^ 40) (core env:Int) {c:da} (cw:Cw c):All (KK.begin_ k core env c).2:=by
 refine ⟨A.toIE.begin hn core env cw,?_⟩
 obtain ⟨log,L⟩:=A.lg
 refine ⟨log,?_⟩
 have hw:=wrapN A.inv.ok.n0 hn
 unfold KK.begin_
 split
 ·exact L
 ·rw [hw]
  exact L.begin A.ev (e0:=KK.ev0 core env c (k.now + 1)) (by show k.now < k.now + 1; omega) rfl rfl rfl
theorem All.post {k:KK} (A:All k) (hn:k.now < 2 ^ 40) (c:Int):All (KK.post k c).2:=by
 have he:(KK.post k c).2.events = k.events/\(KK.post k c).2.p = k.p:=by
  unfold KK.post
  split
  ·exact ⟨rfl,rfl⟩
  ·split <;> exact ⟨rfl,rfl⟩
 obtain ⟨log,L⟩:=A.lg
 exact ⟨A.toIE.post hn c,log,L.same he.1 he.2⟩
theorem All.tick {k:KK} (A:All k) (hn:k.now < 2 ^ 40):All (KK.tick k):=by
 obtain ⟨log,L⟩:=A.lg
 exact ⟨⟨A.inv.tick hn,tick_ev A.inv.ok A.ev hn⟩,log,L.same rfl rfl⟩
theorem work_log {k:KK} (A:All k) (hlate:∀ (i:Nat) e,k.events[i]? = some e->e.fRa < k.now/\e.fHa < k.now) (hn0:0 < k.now) {c:Nat} {x:KC} (hx:KK.call k c = some x) (hi:KK.is k c = true):∃ log,Log (KK.work k c x) log:=by
 have hc:c < k.calls.length:=by obtain ⟨n,e,h⟩:=lf hi; omega
 have hcx:=sE hx
 obtain ⟨log,L⟩:=A.lg
 obtain ⟨n,hn,e0,g1,g2,g3,g4,g5⟩:=A.ev.call c x hcx
 have setev:∀ (m:KK) (a:eH) (l:jn),m.events = k.events->m.now = k.now->(KK.ends m c x a l).events = k.events.set n (KK.evend e0 k.now a l):=by
  intro m a l h1 h2
  unfold KK.ends
  rw [h1,h2,hn]
  simp only [Int.toNat_natCast,List.getD_eq_getElem?_getD,g1,Option.getD_some]
 have hev:∀ a l,fLa.ev (k.events.set n (KK.evend e0 k.now a l)) n = KK.evend e0 k.now a l:=fun a l=>by rw [ev_set g1,if_pos (by simp)]
 have juser:∀ a l,ft (KK.evend e0 k.now a l) = bA (az x.fc).1:=fun a l=>by
  unfold ft
  show bA (az e0.fKa).1 = _
  rw [g4]
 unfold KK.work
 by_cases hu:bA (az x.fc).1 = true
 ·rw [if_pos hu]
  obtain ⟨h1,h2,h3,_,_⟩:=access_keep k c x
  have he:=setev (KK.access k c x).2 (KK.access k c x).1.1 (KK.access k c x).1.2 h1 h2
  refine ⟨log++[(n:Int)],?_⟩
  have ag:=access_good A.inv hc hcx hu (es:=k.events.set n (KK.evend e0 k.now (KK.access k c x).1.1 (KK.access k c x).1.2)) (e:=KK.evend e0 k.now (KK.access k c x).1.1 (KK.access k c x).1.2) g4 g3 rfl rfl ?_
  ·refine L.effect g1 g5 hlate hn0 he h3 ?_ ?_
   ·rw [he]
    unfold fLa.good
    rw [hev,juser,hu]
    exact ⟨fun _=>ag.1,fun h=>(by cases h)⟩
   ·rw [he]
    unfold fLa.jstep
    rw [hev,juser,if_pos hu]
    exact ag.2
  ·rintro d y ⟨hy,hty⟩
   obtain ⟨m,hm,ey,f1,f2,f3,f4,f5⟩:=A.ev.call d y hy
   have hmn:m ≠ n:=by
    rintro rfl
    rw [g1] at f1
    cases f1
    have:d = c:=by omega
    subst this
    rw [hcx] at hy
    cases hy
    have T:=A.inv.teller ⟨hcx,hty⟩
    have w:=tP A.inv.en.1 A.inv.en.2 T.k
    have ht:=T.t
    rw [tn w.kind] at hu
    unfold bA at hu
    unfold Tk at ht
    simp at hu
    omega
   have hge:(k.events.set n (KK.evend e0 k.now (KK.access k c x).1.1 (KK.access k c x).1.2))[m]? = some ey:=by rw [List.getElem?_set,if_neg (fun h=>hmn h.symm)]; exact f1
   rw [hm]
   refine ⟨?_,?_,?_⟩
   ·unfold Hist.over
    rw [Hist.mem_places]
    refine ⟨m,ey,hge,rfl,?_⟩
    have:=(hlate m ey f1).1
    show (decide (ey.fRa <= k.now) && (ey.fHa == 0 || decide (ey.fHa > k.now))) = true
    rw [f5]; simp; omega
   ·rw [ev_get hge]; exact f4
   ·rw [ev_get hge]; exact f3
 ·rw [if_neg hu]
  have hu':bA (az x.fc).1 = false:=by simpa using hu
  split
  ·exact ⟨log,L.same rfl rfl⟩
  ·split
   ·exact ⟨log,L⟩
   ·split
    ·rename_i hdone
     have he:=setev { k with p:=(PK.do_ k.p x.fGa x.fc).2 } (PK.do_ k.p x.fGa x.fc).1.1 iB rfl rfl
     refine ⟨log++[(n:Int)],L.effect g1 g5 hlate hn0 he (do_s _ _ _) ?_ ?_⟩
     ·rw [he]
      unfold fLa.good
      rw [hev,juser,hu']
      refine ⟨fun h=>(by cases h),fun _=>?_⟩
      show (PK.do_ k.p e0.fCa e0.fKa).1.2 = true/\(PK.do_ k.p e0.fCa e0.fKa).1.1 = (PK.do_ k.p x.fGa x.fc).1.1
      rw [g3,g4]
      exact ⟨hdone,rfl⟩
     ·rw [he]
      unfold fLa.jstep
      rw [hev,juser,if_neg hu]
      show (PK.do_ k.p e0.fCa e0.fKa).2 = (PK.do_ k.p x.fGa x.fc).2
      rw [g3,g4]
    ·rename_i hdone
     rw [do_wait (by simpa using hdone)]
     exact ⟨log,L⟩
theorem All.step {k:KK} (A:All k) (hn:k.now < 2 ^ 40) (c:Int):All (KK.step k c).2:=by
 refine ⟨A.toIE.step hn c,?_⟩
 unfold KK.step
 split
 ·exact A.lg
 ·rename_i hb
  obtain ⟨hi,x,hx⟩:=busy_is (by simpa using hb)
  rw [hx]
  obtain ⟨n,rfl,_⟩:=lf hi
  have h0:=A.inv.ok.n0
  exact work_log (A.tick hn) (tick_late A.inv.ok A.ev hn) (by rw [tick_now A.inv.ok hn]; omega) hx hi
theorem All.right {k:KK} (A:All k):fLa.right k.events k.p.s = true/\fLa.linear k.events k.p.s = (-1,true)/\fLa.accesses k.events k.p.s = (-1,true):=by
 obtain ⟨log,L⟩:=A.lg
 exact right_of A.ev L
end
section
open Go Mb
set_option linter.unusedVariables false
def errors_as_l2 (a1:Value) (a2:aI) (a3:Value) (K:Bool->Hp->Prop) (v48:Sl) (Rec25:Int->Hp->Prop) (s24:Int):Hp->Prop:=br (decide (s24 < (v48.len:Int))) ( ix v48 s24 fun q52=>ld (q52.1,q52.2 + Int.toNat s24 * 1) cV fun x53=>hpv prog (do eqGuard .eql 199 (.tmp 54) (.const Value.nilIface) x53 Value.nilIface; binOp .eql 199 x53 Value.nilIface:Sem Value) aC fun (v55:Bool)=>br v55 ( Rec25 (IntKind.i64.wrap (s24 + 1))) ( cl prog ux [x53,a1,(.agg (aI.C a2).toArray),a3] aC fun r60=>br r60 ( K true) ( Rec25 (IntKind.i64.wrap (s24 + 1))))) ( K false)
def xz (a1:Value) (a2:aI) (a3:Value) (K:Bool->Hp->Prop) (Rec2:Value->Hp->Prop) (s1:Value) (s11:Unit):Hp->Prop:=hpv prog (Instr.typeAssert s1 gx jh true) gr fun (v37:Value × Bool)=>br v37.2 ( cln prog (callMethod v37.1 "Unwrap" #[]) encV fun (v41:Value)=>hpv prog (do eqGuard .eql 199 (.tmp 42) (.const Value.nilIface) v41 Value.nilIface; binOp .eql 199 v41 Value.nilIface:Sem Value) aC fun (v43:Bool)=>br v43 ( K false) ( Rec2 v41)) ( hpv prog (Instr.typeAssert s1 gx iA true) fY fun (v44:Value × Bool)=>br v44.2 ( cln prog (callMethod v44.1 "Unwrap" #[]) R_Serror fun (v48:Sl)=>Lp (errors_as_l2 a1 a2 a3 K v48) 0) ( K false))
def xy (a1:Value) (a2:aI) (a3:Value) (K:Bool->Hp->Prop) (Rec2:Value->Hp->Prop) (s1:Value):Hp->Prop:=cln prog (callFunc gi #[s1]) encV fun (v17:Value)=>cln prog (callMethod v17 "AssignableTo" #[a3]) aC fun (v19:Bool)=>br v19 ( cln prog (callFunc fj #[(.agg (aI.C a2).toArray)]) fC fun (v21:aI)=>cln prog (callFunc cW #[s1]) fC fun (v23:aI)=>cln prog (callFunc fx #[(.agg (aI.C v21).toArray),(.agg (aI.C v23).toArray)]) R_ fun (v24:Unit)=>K true) ( hpv prog (Instr.typeAssert s1 gx qD true) nE fun (v27:Value × Bool)=>br v27.2 ( cln prog (callMethod v27.1 "As" #[a1]) aC fun (v34:Bool)=>br v34 ( K true) ( xz a1 a2 a3 K Rec2 s1 ())) ( xz a1 a2 a3 K Rec2 s1 ()))
def sh_errors_as (a0:Value) (a1:Value) (a2:aI) (a3:Value) (K:Bool->Hp->Prop):Hp->Prop:=Lp (xy a1 a2 a3 K) a0
theorem sim_errors_as (a0:Value) (a1:Value) (a2:aI) (a3:Value) {K:Bool->Hp->Prop} {h:Hp} (H:sh_errors_as a0 a1 a2 a3 K h):Ct prog ux #[a0,a1,(.agg (aI.C a2).toArray),a3] h fun v h'=>∃ r,v = aC r/\K r h':=ay [a0,a1,(.agg (aI.C a2).toArray),a3] func232 c c c fun _=>M<|aa<|cO (l:=aI.C a2) c c c fun b6=>O c<|aA<|bE (step:=xy a1 a2 a3 K) (fun s1=>[(0,s1),(1,a1),(3,a3),(6,(.pointer (some ⟨b6,0,none⟩)))]) (fun s1=>[bx b6 296 (aI.C a2)]) H (.cons c<|.cons c<|.cons c<|.cons c<|.nil _) (.cons_cons _ .slnil) fun Rec2 s1 _ H3=>aA<|al<|M<|J c<|aa<|gf H3 (rR (vs:=[s1]) c) c fun v17 _ H4=>J c<|aa<|gf H4 (ge (vs:=[a3]) c c) c fun v19 _ H5=>ad<|aw c H5 (fun k6 H7=>M<|bh (bF (k:=0) ag_296 c c c c) c<|aa<|gf H7 (rR (vs:=[(.agg (aI.C a2).toArray)]) c) c fun v21 _ H8=>J c<|aa<|gf H8 (rR (vs:=[s1]) c) c fun v23 _ H9=>aa<|gf H9 (rR (vs:=[(.agg (aI.C v21).toArray),(.agg (aI.C v23).toArray)]) c) c fun v24 _ H10=>ad<|M<|O c<|aj<|Y ⟨true,c,H10⟩) fun k6 H7=>ao<|eG (xz a1 a2 a3 K Rec2 s1) (fun s11=>[(0,s1),(1,a1),(3,a3),(6,(.pointer (some ⟨b6,0,none⟩)))]) (fun s11=>[bx b6 296 (aI.C a2)]) (M<|J c<|aa<|aR H7 (gb c) c fun v27 _ H39=>J c<|p (ak c c)<|p (ak c c)<|p (au c)<|O c<|M<|J c<|J c<|V c c (aB _) (fun g40=>wv<|ah c)<|V c c (aB _) (fun g41=>wv<|ah c)<|bS H39 (fun k43 H44=>F (D k43)<|gf H44 (ge (vs:=[a1]) (aD c k43)<|aS (aD c k43) bR) c fun v34 _ H45=>p (aT c k43 c)<|ad<|aw c H45 (fun k46 H47=>M<|O c<|aj<|Y ⟨true,c,H47⟩) fun k46 H47=>ao<|cM () H47 (.cons c<|.cons c<|.cons c<|.cons c<|.nil _)<|.cons_cons _ .slnil) fun k43 H44=>W (aU k43)<|p (aq c k43 c)<|ad<|ev_no c c<|ao<|cM () H44 (.cons c<|.cons c<|.cons c<|.cons c<|.nil _)<|.cons_cons _ .slnil) fun s11 _ H12=>M<|J c<|ad<|aA<|M<|aa<|aR H12 (gb c) c fun v37 _ H13=>p (ak c c)<|p (ak c c)<|ad<|aw c H13 (fun k14 H15=>M<|O c<|M<|J c<|aa<|gf H15 (ge (vs:=[]) c c) c fun v41 _ H16=>O c<|M<|J c<|aa<|aR H16 (gw c c) c fun v43 _ H17=>ad<|aw c H17 (fun k18 H19=>M<|O c<|aj<|Y ⟨false,c,H19⟩) fun k18 H19=>ao<|cN v41 H19 (.cons c<|.cons c<|.cons c<|.cons c<|.nil _)<|.cons_cons _ .slnil) fun k14 H15=>M<|aa<|aR H15 (gb c) c fun v44 _ H20=>p (ak c c)<|p (ak c c)<|ad<|aw c H20 (fun k21 H22=>M<|O c<|al<|M<|J c<|aa<|gf H22 (ge (vs:=[]) c c) c fun v48 _ H23=>p (dz c underlying280 c)<|J c<|ad<|aA<|bE (step:=errors_as_l2 a1 a2 a3 K v48) (fun s24=>[(1,a1),(3,a3),(6,(.pointer (some ⟨b6,0,none⟩))),(48,(sv v48)),(49,(.int .i64 (v48.len:Int))),(50,(.int .i64 s24))]) (fun s24=>[bx b6 296 (aI.C a2)]) H23 (.cons c<|.cons c<|.cons c<|.cons c<|.cons c<|.cons c<|.nil _) (.cons_cons _ .slnil) fun Rec25 s24 _ H26=>M<|p (cx c c)<|ad<|al<|aw c H26 (fun k27 H28=>ao<|al<|aA<|M<|cm H28 fun q52 e29 h30 H31=>p (bq slc_280 (aN c<|bb e29) c h30)<|aa<|aW H31 sc_199 c (fun _=>c) c fun x53 H32=>O c<|al<|M<|J c<|aa<|aR H32 (gw c c) c fun v55 _ H33=>ad<|aw c H33 (fun k34 H35=>bi<|ap<|p (bo c c)<|J c<|ad<|cN (IntKind.i64.wrap (s24 + 1)) H35 (.cons c<|.cons c<|.cons c<|.cons c<|.cons c<|.cons c<|.nil _)<|.cons_cons _ .slnil) fun k34 H35=>ao<|M<|J c<|J c<|bh (bF (k:=0) ag_296 c c c c) c<|J c<|aa<|Z H35 en_232 fun r60 _ H36=>ad<|aw c H36 (fun k37 H38=>M<|O c<|aj<|Y ⟨true,c,H38⟩) fun k37 H38=>ao<|ap<|p (bo c c)<|J c<|ad<|cN (IntKind.i64.wrap (s24 + 1)) H38 (.cons c<|.cons c<|.cons c<|.cons c<|.cons c<|.cons c<|.nil _)<|.cons_cons _ .slnil) fun k27 H28=>bi<|M<|O c<|aj<|Y ⟨false,c,H28⟩) fun k21 H22=>M<|O c<|M<|O c<|aj<|Y ⟨false,c,H22⟩
def sq (a0:Value) (a1:Value) (K:Bool->Hp->Prop) (v14:aI) (v26:Value) (s11:Unit):Hp->Prop:=cl prog ux [a0,a1,(.agg (aI.C v14).toArray),v26] aC fun r41=>K r41
def xA (a0:Value) (a1:Value) (K:Bool->Hp->Prop) (v14:aI) (v16:Value) (s8:Unit):Hp->Prop:=cln prog (callMethod v16 "Elem" #[]) encV fun (v26:Value)=>cln prog (callMethod v26 "Kind" #[]) R_abi_Kind fun (v28:Int)=>br (v28 != 20) ( ld (0,0) cV fun x32=>cln prog (callMethod v26 "Implements" #[x32]) aC fun (v33:Bool)=>br (!v33) ( hpv prog (Instr.makeInterface vd (.string str_6ae768b9)) encV fun (v36:Value)=>nope) ( sq a0 a1 K v14 v26 ())) ( sq a0 a1 K v14 v26 ())
def xB (a0:Value) (a1:Value) (K:Bool->Hp->Prop) (s4:Unit):Hp->Prop:=cln prog (callFunc cW #[a1]) fC fun (v14:aI)=>cln prog (callFunc iz #[(.agg (aI.C v14).toArray)]) encV fun (v16:Value)=>cln prog (callMethod v16 "Kind" #[]) R_abi_Kind fun (v18:Int)=>br (!(v18 != 22)) ( cln prog (callFunc eT #[(.agg (aI.C v14).toArray)]) aC fun (v22:Bool)=>br v22 ( hpv prog (Instr.makeInterface vd (.string str_ae9b7a08)) encV fun (v24:Value)=>nope) ( xA a0 a1 K v14 v16 ())) ( hpv prog (Instr.makeInterface vd (.string str_ae9b7a08)) encV fun (v24:Value)=>nope)
def wW (a0:Value) (a1:Value) (K:Bool->Hp->Prop):Hp->Prop:=hpv prog (do eqGuard .eql 199 (.tmp 8) (.const Value.nilIface) a0 Value.nilIface; binOp .eql 199 a0 Value.nilIface:Sem Value) aC fun (v9:Bool)=>br v9 ( K false) ( hpv prog (do eqGuard .eql 20 (.tmp 10) (.const Value.nilIface) a1 Value.nilIface; binOp .eql 20 a1 Value.nilIface:Sem Value) aC fun (v11:Bool)=>br v11 ( hpv prog (Instr.makeInterface vd (.string str_53947bae)) encV fun (v12:Value)=>nope) ( xB a0 a1 K ()))
theorem sim_errors_As (a0:Value) (a1:Value) {K:Bool->Hp->Prop} {h:Hp} (H:wW a0 a1 K h):Ct prog uy #[a0,a1] h fun v h'=>∃ r,v = aC r/\K r h':=ay [a0,a1] func227 c c c fun _=>M<|O c<|al<|M<|J c<|aa<|aR H (gw c c) c fun v9 _ H1=>ad<|aw c H1 (fun k2 H3=>M<|O c<|aj<|Y ⟨false,c,H3⟩) fun k2 H3=>ao<|eG (xB a0 a1 K) (fun s4=>[(0,a0),(1,a1)]) (fun s4=>[]) (M<|J c<|aa<|aR H3 (gw c c) c fun v11 _ H34=>ad<|aw c H34 (fun k35 H36=>ap<|aa<|aR H36 (gE c) c fun v12 _ H37=>evlNo H37) fun k35 H36=>ao<|cM () H36 (.cons c<|.cons c<|.nil _) .slnil) fun s4 _ H5=>M<|J c<|aa<|gf H5 (rR (vs:=[a1]) c) c fun v14 _ H6=>aa<|aM (l:=aI.C (⟨none,none,0⟩:aI)) zero_296 c c fun b5=>aa<|aP (k:=0) (vs:=aI.C v14) inf_296 c c c c c c c<|ad<|M<|bh (bF (k:=0) ag_296 c c c c) c<|aa<|gf H6 (rR (vs:=[(.agg (aI.C v14).toArray)]) c) c fun v16 _ H7=>O c<|eG (xA a0 a1 K v14 v16) (fun s8=>[(0,a0),(1,a1),(5,(.pointer (some ⟨b5,0,none⟩))),(6,v16)]) (fun s8=>[bx b5 296 (aI.C v14)]) (M<|J c<|aa<|gf H7 (ge (vs:=[]) c c) c fun v18 _ H24=>p (pt c c)<|J c<|V c c (aL _) (fun g25=>cv<|bF (k:=0) ag_296 c c c c)<|bS H24 (fun k27 H28=>F (D<|bW k27)<|gf H28 (rR (vs:=[(.agg (aI.C v14).toArray)])<|aS (aD c k27) bR) c fun v22 _ H29=>p (aq c (bW k27) c)<|ad<|aw c H29 (fun k30 H31=>ap<|aa<|aR H31 (gE c) c fun v24 _ H32=>evlNo H32) fun k30 H31=>ao<|cM () H31 (.cons c<|.cons c<|.cons c<|.cons c<|.nil _)<|.cons_cons _ .slnil) fun k27 H28=>W (cf<|bH k27)<|p (aT c (bH k27) c)<|ad<|ke c c<|ap<|aa<|aR H28 (gE c) c fun v24 _ H33=>evlNo H33) fun s8 _ H9=>M<|J c<|aa<|gf H9 (ge (vs:=[]) c c) c fun v26 _ H10=>O c<|eG (sq a0 a1 K v14 v26) (fun s11=>[(0,a0),(1,a1),(5,(.pointer (some ⟨b5,0,none⟩))),(7,v26)]) (fun s11=>[bx b5 296 (aI.C v14)]) (M<|J c<|aa<|gf H10 (ge (vs:=[]) c c) c fun v28 _ H14=>p (pt c c)<|J c<|V c c (aB _) (fun g15=>wv<|ah c)<|bS H14 (fun k17 H18=>F (D k17)<|aW H18 sc_249 c (fun _=>c) c fun x32 H19=>F (D k17)<|gf H19 (ge (vs:=[x32]) (aD c k17) c) c fun v33 _ H20=>F (D k17)<|R (cr c)<|p (aT c k17 c)<|ad<|aw c H20 (fun k21 H22=>ap<|aa<|aR H22 (gE c) c fun v36 _ H23=>evlNo H23) fun k21 H22=>ao<|cM () H22 (.cons c<|.cons c<|.cons c<|.cons c<|.nil _)<|.cons_cons _ .slnil) fun k17 H18=>W (aU k17)<|W (aU k17)<|W (aU k17)<|p (aq c k17 c)<|ad<|ev_no c c<|ao<|cM () H18 (.cons c<|.cons c<|.cons c<|.cons c<|.nil _)<|.cons_cons _ .slnil) fun s11 _ H12=>M<|J c<|J c<|bh (bF (k:=0) ag_296 c c c c) c<|J c<|aa<|Z H12 en_232 fun r41 _ H13=>O c<|aj<|Y ⟨r41,c,H13⟩
def errors_is_l2 (a1:Value) (a2:Bool) (K:Bool->Hp->Prop) (v43:Sl) (Rec26:Int->Hp->Prop) (s25:Int):Hp->Prop:=br (decide (s25 < (v43.len:Int))) ( ix v43 s25 fun q47=>ld (q47.1,q47.2 + Int.toNat s25 * 1) cV fun x48=>cl prog nP [x48,a1,(.bool a2)] aC fun r52=>br r52 ( K true) ( Rec26 (IntKind.i64.wrap (s25 + 1)))) ( K false)
def so (a1:Value) (a2:Bool) (K:Bool->Hp->Prop) (Rec2:Value->Hp->Prop) (s1:Value) (s12:Unit):Hp->Prop:=hpv prog (Instr.typeAssert s1 gx jh true) gr fun (v32:Value × Bool)=>br v32.2 ( cln prog (callMethod v32.1 "Unwrap" #[]) encV fun (v36:Value)=>hpv prog (do eqGuard .eql 199 (.tmp 37) (.const Value.nilIface) v36 Value.nilIface; binOp .eql 199 v36 Value.nilIface:Sem Value) aC fun (v38:Bool)=>br v38 ( K false) ( Rec2 v36)) ( hpv prog (Instr.typeAssert s1 gx iA true) fY fun (v39:Value × Bool)=>br v39.2 ( cln prog (callMethod v39.1 "Unwrap" #[]) R_Serror fun (v43:Sl)=>Lp (errors_is_l2 a1 a2 K v43) 0) ( K false))
def errors_is_l3 (a1:Value) (a2:Bool) (K:Bool->Hp->Prop) (v43:Sl) (Rec60:Int->Hp->Prop) (s59:Int):Hp->Prop:=br (decide (s59 < (v43.len:Int))) ( ix v43 s59 fun q47=>ld (q47.1,q47.2 + Int.toNat s59 * 1) cV fun x48=>cl prog nP [x48,a1,(.bool a2)] aC fun r52=>br r52 ( K true) ( Rec60 (IntKind.i64.wrap (s59 + 1)))) ( K false)
def xx (a1:Value) (a2:Bool) (K:Bool->Hp->Prop) (Rec2:Value->Hp->Prop) (s1:Value) (s46:Unit):Hp->Prop:=hpv prog (Instr.typeAssert s1 gx jh true) gr fun (v32:Value × Bool)=>br v32.2 ( cln prog (callMethod v32.1 "Unwrap" #[]) encV fun (v36:Value)=>hpv prog (do eqGuard .eql 199 (.tmp 37) (.const Value.nilIface) v36 Value.nilIface; binOp .eql 199 v36 Value.nilIface:Sem Value) aC fun (v38:Bool)=>br v38 ( K false) ( Rec2 v36)) ( hpv prog (Instr.typeAssert s1 gx iA true) fY fun (v39:Value × Bool)=>br v39.2 ( cln prog (callMethod v39.1 "Unwrap" #[]) R_Serror fun (v43:Sl)=>Lp (errors_is_l3 a1 a2 K v43) 0) ( K false))
def sn (a1:Value) (a2:Bool) (K:Bool->Hp->Prop) (Rec2:Value->Hp->Prop) (s1:Value):Hp->Prop:=br a2 ( hpv prog (do eqGuard .eql 199 (.tmp 16) (.tmp 17) s1 a1; binOp .eql 199 s1 a1:Sem Value) aC fun (v18:Bool)=>br v18 ( K true) ( hpv prog (Instr.typeAssert s1 gx mv true) jI fun (v22:Value × Bool)=>br v22.2 ( cln prog (callMethod v22.1 "Is" #[a1]) aC fun (v29:Bool)=>br v29 ( K true) ( so a1 a2 K Rec2 s1 ())) ( so a1 a2 K Rec2 s1 ()))) ( hpv prog (Instr.typeAssert s1 gx mv true) jI fun (v22:Value × Bool)=>br v22.2 ( cln prog (callMethod v22.1 "Is" #[a1]) aC fun (v29:Bool)=>br v29 ( K true) ( xx a1 a2 K Rec2 s1 ())) ( xx a1 a2 K Rec2 s1 ()))
def wU (a0:Value) (a1:Value) (a2:Bool) (K:Bool->Hp->Prop):Hp->Prop:=Lp (sn a1 a2 K) a0
theorem sim_errors_is (a0:Value) (a1:Value) (a2:Bool) {K:Bool->Hp->Prop} {h:Hp} (H:wU a0 a1 a2 K h):Ct prog nP #[a0,a1,(.bool a2)] h fun v h'=>∃ r,v = aC r/\K r h':=ay [a0,a1,(.bool a2)] func192 c c c fun _=>M<|O c<|aA<|bE (step:=sn a1 a2 K) (fun s1=>[(0,s1),(1,a1),(2,(.bool a2))]) (fun s1=>[]) H (.cons c<|.cons c<|.cons c<|.nil _) .slnil fun Rec2 s1 _ H3=>aA<|al<|M<|J c<|J c<|V c c (aB _) (fun g4=>wv<|ah c)<|V c c (aB _) (fun g5=>wv<|ah c)<|bS H3 (fun k7 H8=>F (D k7)<|aR H8 (gw (aD c k7)<|aD c k7) c fun v18 _ H9=>p (aT c k7 c)<|ad<|aw c H9 (fun k10 H11=>M<|O c<|aj<|Y ⟨true,c,H11⟩) fun k10 H11=>ao<|eG (so a1 a2 K Rec2 s1) (fun s12=>[(0,s1),(1,a1),(2,(.bool a2))]) (fun s12=>[]) (M<|J c<|aa<|aR H11 (gb c) c fun v22 _ H37=>J c<|p (ak c c)<|p (ak c c)<|p (au c)<|O c<|M<|J c<|J c<|V c c (aB _) (fun g38=>wv<|ah c)<|V c c (aB _) (fun g39=>wv<|ah c)<|bS H37 (fun k41 H42=>F (D k41)<|gf H42 (ge (vs:=[a1]) (aD c k41)<|aS (aD c k41) bR) c fun v29 _ H43=>p (aT c k41 c)<|ad<|aw c H43 (fun k44 H45=>M<|O c<|aj<|Y ⟨true,c,H45⟩) fun k44 H45=>ao<|cM () H45 (.cons c<|.cons c<|.cons c<|.nil _) .slnil) fun k41 H42=>W (aU k41)<|p (aq c k41 c)<|ad<|ev_no c c<|ao<|cM () H42 (.cons c<|.cons c<|.cons c<|.nil _) .slnil) fun s12 _ H13=>M<|J c<|ad<|aA<|M<|aa<|aR H13 (gb c) c fun v32 _ H14=>p (ak c c)<|p (ak c c)<|ad<|aw c H14 (fun k15 H16=>M<|O c<|M<|J c<|aa<|gf H16 (ge (vs:=[]) c c) c fun v36 _ H17=>O c<|M<|J c<|aa<|aR H17 (gw c c) c fun v38 _ H18=>ad<|aw c H18 (fun k19 H20=>M<|O c<|aj<|Y ⟨false,c,H20⟩) fun k19 H20=>ao<|cN v36 H20 (.cons c<|.cons c<|.cons c<|.nil _) .slnil) fun k15 H16=>M<|aa<|aR H16 (gb c) c fun v39 _ H21=>p (ak c c)<|p (ak c c)<|ad<|aw c H21 (fun k22 H23=>M<|O c<|al<|M<|J c<|aa<|gf H23 (ge (vs:=[]) c c) c fun v43 _ H24=>p (dz c underlying280 c)<|J c<|ad<|aA<|bE (step:=errors_is_l2 a1 a2 K v43) (fun s25=>[(1,a1),(2,(.bool a2)),(43,(sv v43)),(44,(.int .i64 (v43.len:Int))),(45,(.int .i64 s25))]) (fun s25=>[]) H24 (.cons c<|.cons c<|.cons c<|.cons c<|.cons c<|.nil _) .slnil fun Rec26 s25 _ H27=>M<|p (cx c c)<|ad<|al<|aw c H27 (fun k28 H29=>ao<|al<|aA<|M<|cm H29 fun q47 e30 h31 H32=>p (bq slc_280 (aN c<|bb e30) c h31)<|aa<|aW H32 sc_199 c (fun _=>c) c fun x48 H33=>O c<|M<|J c<|J c<|J c<|aa<|Z H33 en_192 fun r52 _ H34=>ad<|aw c H34 (fun k35 H36=>M<|O c<|aj<|Y ⟨true,c,H36⟩) fun k35 H36=>ao<|ap<|p (bo c c)<|J c<|ad<|cN (IntKind.i64.wrap (s25 + 1)) H36 (.cons c<|.cons c<|.cons c<|.cons c<|.cons c<|.nil _) .slnil) fun k28 H29=>bi<|M<|O c<|aj<|Y ⟨false,c,H29⟩) fun k22 H23=>M<|O c<|M<|O c<|aj<|Y ⟨false,c,H23⟩) fun k7 H8=>W (aU k7)<|p (aq c k7 c)<|ad<|ev_no c c<|ao<|eG (xx a1 a2 K Rec2 s1) (fun s46=>[(0,s1),(1,a1),(2,(.bool a2))]) (fun s46=>[]) (M<|J c<|aa<|aR H8 (gb c) c fun v22 _ H71=>J c<|p (ak c c)<|p (ak c c)<|p (au c)<|O c<|M<|J c<|J c<|V c c (aB _) (fun g72=>wv<|ah c)<|V c c (aB _) (fun g73=>wv<|ah c)<|bS H71 (fun k75 H76=>F (D k75)<|gf H76 (ge (vs:=[a1]) (aD c k75)<|aS (aD c k75) bR) c fun v29 _ H77=>p (aT c k75 c)<|ad<|aw c H77 (fun k78 H79=>M<|O c<|aj<|Y ⟨true,c,H79⟩) fun k78 H79=>ao<|cM () H79 (.cons c<|.cons c<|.cons c<|.nil _) .slnil) fun k75 H76=>W (aU k75)<|p (aq c k75 c)<|ad<|ev_no c c<|ao<|cM () H76 (.cons c<|.cons c<|.cons c<|.nil _) .slnil) fun s46 _ H47=>M<|J c<|ad<|aA<|M<|aa<|aR H47 (gb c) c fun v32 _ H48=>p (ak c c)<|p (ak c c)<|ad<|aw c H48 (fun k49 H50=>M<|O c<|M<|J c<|aa<|gf H50 (ge (vs:=[]) c c) c fun v36 _ H51=>O c<|M<|J c<|aa<|aR H51 (gw c c) c fun v38 _ H52=>ad<|aw c H52 (fun k53 H54=>M<|O c<|aj<|Y ⟨false,c,H54⟩) fun k53 H54=>ao<|cN v36 H54 (.cons c<|.cons c<|.cons c<|.nil _) .slnil) fun k49 H50=>M<|aa<|aR H50 (gb c) c fun v39 _ H55=>p (ak c c)<|p (ak c c)<|ad<|aw c H55 (fun k56 H57=>M<|O c<|al<|M<|J c<|aa<|gf H57 (ge (vs:=[]) c c) c fun v43 _ H58=>p (dz c underlying280 c)<|J c<|ad<|aA<|bE (step:=errors_is_l3 a1 a2 K v43) (fun s59=>[(1,a1),(2,(.bool a2)),(43,(sv v43)),(44,(.int .i64 (v43.len:Int))),(45,(.int .i64 s59))]) (fun s59=>[]) H58 (.cons c<|.cons c<|.cons c<|.cons c<|.cons c<|.nil _) .slnil fun Rec60 s59 _ H61=>M<|p (cx c c)<|ad<|al<|aw c H61 (fun k62 H63=>ao<|al<|aA<|M<|cm H63 fun q47 e64 h65 H66=>p (bq slc_280 (aN c<|bb e64) c h65)<|aa<|aW H66 sc_199 c (fun _=>c) c fun x48 H67=>O c<|M<|J c<|J c<|J c<|aa<|Z H67 en_192 fun r52 _ H68=>ad<|aw c H68 (fun k69 H70=>M<|O c<|aj<|Y ⟨true,c,H70⟩) fun k69 H70=>ao<|ap<|p (bo c c)<|J c<|ad<|cN (IntKind.i64.wrap (s59 + 1)) H70 (.cons c<|.cons c<|.cons c<|.cons c<|.cons c<|.nil _) .slnil) fun k62 H63=>bi<|M<|O c<|aj<|Y ⟨false,c,H63⟩) fun k56 H57=>M<|O c<|M<|O c<|aj<|Y ⟨false,c,H57⟩
def wV (a0:Value) (a1:Value) (K:Bool->Hp->Prop):Hp->Prop:=hpv prog (do eqGuard .eql 199 (.tmp 6) (.const Value.nilIface) a0 Value.nilIface; binOp .eql 199 a0 Value.nilIface:Sem Value) aC fun (v7:Bool)=>br (!v7) ( hpv prog (do eqGuard .eql 199 (.tmp 9) (.const Value.nilIface) a1 Value.nilIface; binOp .eql 199 a1 Value.nilIface:Sem Value) aC fun (v10:Bool)=>br v10 ( hpv prog (do eqGuard .eql 199 (.tmp 12) (.tmp 13) a0 a1; binOp .eql 199 a0 a1:Sem Value) aC fun (v14:Bool)=>K v14) ( cln prog (callFunc gi #[a1]) encV fun (v16:Value)=>cln prog (callMethod v16 "Comparable" #[]) aC fun (v17:Bool)=>cl prog nP [a0,a1,(.bool v17)] aC fun r21=>K r21)) ( hpv prog (do eqGuard .eql 199 (.tmp 12) (.tmp 13) a0 a1; binOp .eql 199 a0 a1:Sem Value) aC fun (v14:Bool)=>K v14)
theorem sim_errors_Is (a0:Value) (a1:Value) {K:Bool->Hp->Prop} {h:Hp} (H:wV a0 a1 K h):Ct prog nQ #[a0,a1] h fun v h'=>∃ r,v = aC r/\K r h':=ay [a0,a1] func149 c c c fun _=>M<|O c<|al<|M<|J c<|aa<|aR H (gw c c) c fun v7 _ H1=>J c<|V c c (aL _) (fun g2=>wv<|ah c)<|bS H1 (fun k4 H5=>F (D<|bW k4)<|aR H5 (gw (aD c k4) c) c fun v10 _ H6=>p (aq c (bW k4) c)<|ad<|aw c H6 (fun k7 H8=>M<|J c<|J c<|aa<|aR H8 (gw c c) c fun v14 _ H9=>O c<|aj<|Y ⟨v14,c,H9⟩) fun k7 H8=>ao<|M<|J c<|aa<|gf H8 (rR (vs:=[a1]) c) c fun v16 _ H10=>aa<|gf H10 (ge (vs:=[]) c c) c fun v17 _ H11=>O c<|M<|J c<|J c<|J c<|aa<|Z H11 en_192 fun r21 _ H12=>O c<|aj<|Y ⟨r21,c,H12⟩) fun k4 H5=>W (cf<|bH k4)<|p (aT c (bH k4) c)<|ad<|ke c c<|M<|J c<|J c<|aa<|aR H5 (gw c c) c fun v14 _ H13=>O c<|aj<|Y ⟨v14,c,H13⟩
end
section
open Go Mb
set_option linter.unusedVariables false
def sh_trap_Of (a0:Int) (K:Value->Hp->Prop):Hp->Prop:=br (a0 == 0) ( K Value.nilIface) ( nw nG (bZ.C (⟨a0,(-1),(⟨0,0,0,0,0⟩:ai),Value.nilIface⟩:bZ)) fun b7=>hpv prog (Instr.makeInterface bg (.pointer (some ⟨b7,0,none⟩))) encV fun (v8:Value)=>K v8)
theorem sim_trap_Of (a0:Int) {K:Value->Hp->Prop} {h:Hp} (H:sh_trap_Of a0 K h):Ct prog kA #[(.int .i64 a0)] h fun v h'=>∃ r,v = iy r/\K r h':=ay [(.int .i64 a0)] func150 c c c fun _=>M<|O c<|al<|M<|J c<|p (bQ c c)<|ad<|aw c H (fun k1 H2=>M<|O c<|aj<|Y ⟨Value.nilIface,c,H2⟩) fun k1 H2=>ao<|M<|J c<|p (ba c<|build_254_0_1 a0 (-1))<|aa<|hY c c c H2 fun b7 _ H3=>aa<|aR H3 (gE c) c fun v8 _ H4=>O c<|aj<|Y ⟨v8,c,H4⟩
def mN (K:(Ptr × Bool)->Hp->Prop) (b4:Nat) (s2:Bool):Hp->Prop:=br s2 ( K (none,false)) ( ld (b4,0) cP fun x13=>K (x13,true))
def uR (a0:Value) (K:(Ptr × Bool)->Hp->Prop):Hp->Prop:=nw bg [pv none] fun b4=>hpv prog (Instr.makeInterface bD (.pointer (some ⟨b4,0,none⟩))) encV fun (v6:Value)=>cl prog uy [a0,v6] aC fun r7=>br (!(!r7)) ( ld (b4,0) cP fun x10=>mN K b4 x10.isNone) ( mN K b4 true)
theorem sim_trap_First (a0:Value) {K:(Ptr × Bool)->Hp->Prop} {h:Hp} (H:uR a0 K h):Ct prog jT #[a0] h fun v h'=>∃ r,v = eJ r/\K r h':=ay [a0] func222 c c c fun _=>M<|p (au c)<|O c<|M<|aa<|to_alloc zero_252 c c H fun b4 _ H1=>ad<|al<|eG (mN K b4) (fun s2=>[(4,(.pointer (some ⟨b4,0,none⟩))),(12,(.bool s2))]) (fun s2=>[]) (ap<|J c<|aa<|aR H1 (gE c) c fun v6 _ H7=>aa<|Z H7 en_227 fun r7 _ H8=>p (cr c)<|J c<|bS H8 (fun k10 H11=>F (D<|bW k10)<|aW H11 sc_252 c (fun _=>c) c fun x10 H12=>F (D<|bW k10)<|R (cq underlying252 c)<|p (aq c (bW k10) c)<|ad<|cM x10.isNone H12 (.cons c<|.cons c<|.nil _) .slnil) fun k10 H11=>W (cf<|bH k10)<|W (cf<|bH k10)<|p (aT c (bH k10) c)<|ad<|cM true H11 (.cons c<|.cons c<|.nil _) .slnil) fun s2 _ H3=>aw c H3 (fun k4 H5=>M<|p (au c)<|O c<|aj<|bv (bN c (cc c)<|cc c) ⟨(none,false),c,H5⟩) fun k4 H5=>ao<|M<|aa<|aW H5 sc_252 c (fun _=>c) c fun x13 H6=>p (au c)<|O c<|aj<|bv (bN c (cc c)<|cc c) ⟨(x13,true),c,H6⟩
def sh_trap_Code (a0:Value) (K:Int->Hp->Prop):Hp->Prop:=hpv prog (do eqGuard .eql 199 (.tmp 5) (.const Value.nilIface) a0 Value.nilIface; binOp .eql 199 a0 Value.nilIface:Sem Value) aC fun (v6:Bool)=>br v6 ( K 0) ( cl prog jT [a0] eJ fun r9=>br r9.2 ( nn r9.1 fun q14=>ld (q14.1,q14.2 + 0) (cI .i64) fun x16=>K x16) ( K 9))
theorem sim_trap_Code (a0:Value) {K:Int->Hp->Prop} {h:Hp} (H:sh_trap_Code a0 K h):Ct prog uv #[a0] h fun v h'=>∃ r,v = bc r/\K r h':=ay [a0] func208 c c c fun _=>M<|O c<|al<|M<|J c<|aa<|aR H (gw c c) c fun v6 _ H1=>ad<|aw c H1 (fun k2 H3=>M<|O c<|aj<|Y ⟨0,c,H3⟩) fun k2 H3=>ao<|al<|M<|J c<|aa<|Z H3 en_222 fun r9 _ H4=>J c<|p (ak c c)<|p (ak c c)<|p (au c)<|O c<|M<|J c<|ad<|aw c H4 (fun k5 H6=>M<|J c<|bG H6 fun q14 e7 H8=>p (aJ<|aN c<|ar e7)<|p (ae vX c)<|aa<|aW H8 oG c (fun _=>c) c fun x16 H9=>O c<|aj<|Y ⟨x16,c,H9⟩) fun k5 H6=>ao<|M<|O c<|aj<|Y ⟨9,c,H6⟩
def sh_trap_In (a0:Int) (a1:ai) (a2:Value) (K:Value->Hp->Prop):Hp->Prop:=hpv prog (do eqGuard .eql 199 (.tmp 7) (.const Value.nilIface) a2 Value.nilIface; binOp .eql 199 a2 Value.nilIface:Sem Value) aC fun (v8:Bool)=>br v8 ( K Value.nilIface) ( cl prog uv [a2] bc fun r10=>hpv prog (Instr.build nG #[(0,(.int .i64 r10)),(1,(.int .i64 a0)),(2,(.agg (ai.C a1).toArray)),(3,a2)]) R_trap_Trap fun (v14:bZ)=>nw nG (bZ.C v14) fun b15=>hpv prog (Instr.makeInterface bg (.pointer (some ⟨b15,0,none⟩))) encV fun (v16:Value)=>K v16)
theorem sim_trap_In (a0:Int) (a1:ai) (a2:Value) {K:Value->Hp->Prop} {h:Hp} (H:sh_trap_In a0 a1 a2 K h):Ct prog n_trap_In #[(.int .i64 a0),(.agg (ai.C a1).toArray),a2] h fun v h'=>∃ r,v = iy r/\K r h':=ay [(.int .i64 a0),(.agg (ai.C a1).toArray),a2] func186 c c c fun _=>M<|aa<|cO (l:=ai.C a1) c c c fun b4=>O c<|al<|M<|J c<|aa<|aR H (gw c c) c fun v8 _ H1=>ad<|aw c H1 (fun k2 H3=>M<|O c<|aj<|Y ⟨Value.nilIface,c,H3⟩) fun k2 H3=>ao<|al<|bn (n:=9) [bx b4 34 (ai.C a1)] cu c (.cons_cons _ .slnil)<|U 0 c (ah c)<|U 2 c (ah c)<|z_E 3 c (eo (k:=0) fz c c c c)<|U 4 c (ah c)<|G 1 c<|Z H3 en_208 fun r10 _ H4=>⟨.cons_cons _ .slnil,G 5 c<|aR H4 (x_build (vs:=[(.int .i64 r10),(.int .i64 a0),(.agg (ai.C a1).toArray),a2]) c) c fun v14 _ H5=>⟨.cons_cons _ .slnil,G 6 c<|hY c c c H5 fun b15 _ H6=>⟨.cons_cons _ .slnil,G 7 c<|aR H6 (gE c) c fun v16 _ H7=>⟨.cons_cons _ .slnil,U 8 c (au c)<|aV (by kernel_rfl)<|aj<|Y ⟨v16,c,H7⟩⟩⟩⟩⟩
def mO (K:Int->Hp->Prop) (Rec3:(Int × Ptr × Bool)->Hp->Prop) (s2:Int × Ptr × Bool):Hp->Prop:=br s2.2.2 ( nn s2.2.1 fun q14=>ld (q14.1,q14.2 + 7) cV fun x16=>cl prog jT [x16] eJ fun r17=>Rec3 ((IntKind.i64.wrap (s2.1 + 1)),r17.1,r17.2)) ( K s2.1)
def sh_trap_Depth (a0:Value) (K:Int->Hp->Prop):Hp->Prop:=cl prog jT [a0] eJ fun r8=>Lp (mO K) (0,r8.1,r8.2)
theorem sim_trap_Depth (a0:Value) {K:Int->Hp->Prop} {h:Hp} (H:sh_trap_Depth a0 K h):Ct prog xg #[a0] h fun v h'=>∃ r,v = ee r/\K r h':=ay [a0] func228 c c c fun _=>M<|O c<|M<|O c<|al<|M<|J c<|aa<|Z H en_222 fun r8 _ H1=>J c<|p (ak c c)<|p (ak c c)<|p (au c)<|O c<|aA<|bE (step:=mO K) (fun s2=>[(3,(.int .i64 s2.1)),(4,(pv s2.2.1)),(5,(.bool s2.2.2))]) (fun s2=>[]) H1 (.cons c<|.cons c<|.cons c<|.nil _) .slnil fun Rec3 s2 _ H4=>al<|M<|J c<|ad<|aw c H4 (fun k5 H6=>ao<|al<|aA<|ap<|J c<|p (bo c c)<|O c<|ap<|J c<|bG H6 fun q14 e7 H8=>p (aJ<|aN c<|ar e7)<|p (ae fld_254_3 c)<|aa<|aW H8 sc_199 c (fun _=>c) c fun x16 H9=>aa<|Z H9 en_222 fun r17 _ H10=>J c<|p (ak c c)<|p (ak c c)<|p (au c)<|O c<|cN ((IntKind.i64.wrap (s2.1 + 1)),r17.1,r17.2) H10 (.cons c<|.cons c<|.cons c<|.nil _) .slnil) fun k5 H6=>bi<|M<|J c<|O c<|aj<|Y ⟨s2.1,c,H6⟩
def np (a0:Ptr) (K:ByteArray->Hp->Prop):Hp->Prop:=br a0.isNone ( K (⟨#[]⟩:ByteArray)) ( nn a0 fun q7=>ld (q7.1,q7.2 + 0) (cI .i64) fun x9=>cl prog tf [(.int .i64 x9)] dR fun r10=>hpv prog (do eqGuard .add 9 (.const (.string (⟨#[116,114,97,112,32]⟩:ByteArray))) (.tmp 10) (.string (⟨#[116,114,97,112,32]⟩:ByteArray)) (.string r10); binOp .add 9 (.string (⟨#[116,114,97,112,32]⟩:ByteArray)) (.string r10):Sem Value) dR fun (v11:ByteArray)=>ld (q7.1,q7.2 + 7) cV fun x15=>hpv prog (do eqGuard .neq 199 (.tmp 15) (.const Value.nilIface) x15 Value.nilIface; binOp .neq 199 x15 Value.nilIface:Sem Value) aC fun (v16:Bool)=>br v16 ( ld (q7.1,q7.2 + 7) cV fun x21=>cln prog (callMethod x21 "Error" #[]) dR fun (v22:ByteArray)=>hpv prog (do eqGuard .add 9 (.const (.string (⟨#[58,32]⟩:ByteArray))) (.tmp 22) (.string (⟨#[58,32]⟩:ByteArray)) (.string v22); binOp .add 9 (.string (⟨#[58,32]⟩:ByteArray)) (.string v22):Sem Value) dR fun (v23:ByteArray)=>hpv prog (do eqGuard .add 9 (.tmp 17) (.tmp 23) (.string v11) (.string v23); binOp .add 9 (.string v11) (.string v23):Sem Value) dR fun (v24:ByteArray)=>K v24) ( K v11))
theorem rz (a0:Ptr) {K:ByteArray->Hp->Prop} {h:Hp} (H:np a0 K h):Ct prog iS #[(pv a0)] h fun v h'=>∃ r,v = dR r/\K r h':=ay [(pv a0)] func253 c c c fun _=>M<|O c<|al<|M<|J c<|p (cq underlying252 c)<|ad<|aw c H (fun k1 H2=>M<|O c<|aj<|Y ⟨(⟨#[]⟩:ByteArray),c,H2⟩) fun k1 H2=>ao<|M<|J c<|bG H2 fun q7 e3 H4=>p (aJ<|aN c<|ar e3)<|p (ae vX c)<|aa<|aW H4 oG c (fun _=>c) c fun x9 H5=>aa<|Z H5 en_256 fun r10 _ H6=>aa<|aR H6 (gw c c) c fun v11 _ H7=>O c<|al<|M<|J (aN c<|ar e3)<|p (aJ c)<|p (ae fld_254_3 c)<|aa<|aW H7 sc_199 c (fun _=>c) c fun x15 H8=>aa<|aR H8 (gw c c) c fun v16 _ H9=>ad<|aw c H9 (fun k10 H11=>ap<|J c<|J (aN c<|ar e3)<|p (aJ c)<|p (ae fld_254_3 c)<|aa<|aW H11 sc_199 c (fun _=>c) c fun x21 H12=>aa<|gf H12 (ge (vs:=[]) c c) c fun v22 _ H13=>aa<|aR H13 (gw c c) c fun v23 _ H14=>aa<|aR H14 (gw c c) c fun v24 _ H15=>O c<|M<|J c<|O c<|aj<|Y ⟨v24,c,H15⟩) fun k10 H11=>ao<|M<|J c<|O c<|aj<|Y ⟨v11,c,H11⟩
def sh_trap_Trap_Is (a0:Ptr) (a1:Value) (K:Bool->Hp->Prop):Hp->Prop:=hpv prog (Instr.typeAssert a1 gx bg true) eJ fun (v9:Ptr × Bool)=>br v9.2 ( br (!a0.isNone) ( br (!v9.1.isNone) ( nn a0 fun q23=>nn v9.1 fun q27=>ld (q23.1,q23.2 + 0) (cI .i64) fun x25=>ld (q27.1,q27.2 + 0) (cI .i64) fun x29=>K (x25 == x29)) ( K false)) ( K false)) ( K false)
theorem sim_trap_Trap_Is (a0:Ptr) (a1:Value) {K:Bool->Hp->Prop} {h:Hp} (H:sh_trap_Trap_Is a0 a1 K h):Ct prog td #[(pv a0),a1] h fun v h'=>∃ r,v = aC r/\K r h':=ay [(pv a0),a1] func254 c c c fun _=>M<|O c<|M<|J c<|aa<|aR H (gb c) c fun v9 _ H1=>J c<|p (ak c c)<|p (ak c c)<|p (au c)<|O c<|al<|bn (n:=21) [] cu c .slnil<|U 0 c (ah c)<|U 1 c (ah c)<|pd H1 (fun k2 H3=>z_n 2 c (D k2) (ve<|ah c)<|z_n 3 c (D k2) (ve<|v_pneT underlying252 c)<|U 4 c (aT c k2 c)<|U 5 c (ah c)<|pd H3 (fun k4 H5=>z_n 6 c (D k4) (ve<|ah c)<|z_n 7 c (D k4) (ve<|v_pneT underlying252 c)<|U 8 c (aT c k4 c)<|U 9 c (ah c)<|pd H5 (fun k6 H7=>z_n 10 c (D k6) (ve<|ah c)<|z_n 14 c (D k6) (ve<|ah c)<|gT H7 fun q23 e8 H9=>z_n 11 c (D k6) (ve<|aJ<|aN c<|ar e8)<|z_n 12 c (D k6) (ve<|ae vX c)<|gT H9 fun q27 e10 H11=>z_n 15 c (D k6) (ve<|aJ<|aN c<|ar e10)<|z_n 16 c (D k6) (ve<|ae vX c)<|mt (i:=13) (fun _ _ _ _ hh=>hh) H11 c (by kernel_rfl) c c c (D k6) oG c (fun _=>c) c fun x25 H12=>mt (i:=17) (fun _ _ _ _ hh=>hh) H12 c (by kernel_rfl) c c c (D k6) oG c (fun _=>c) c fun x29 H13=>z_n 18 c (D k6) (ve<|bQ c c)<|U 19 c (aT c k6 c)<|U 20 c (au c)<|aV (by kernel_rfl)<|aj<|Y ⟨(x25 == x29),c,H13⟩) fun k6 H7=>I 10 c (aU k6)<|I 11 c (aU k6)<|I 12 c (aU k6)<|I 13 c (aU k6)<|I 14 c (aU k6)<|I 15 c (aU k6)<|I 16 c (aU k6)<|I 17 c (aU k6)<|I 18 c (aU k6)<|U 19 c (aq c k6 c)<|U 20 c (au c)<|aV (by kernel_rfl)<|aj<|Y ⟨false,c,H7⟩) fun k4 H5=>I 6 c (aU k4)<|I 7 c (aU k4)<|U 8 c (aq c k4 c)<|U 9 c (ah c)<|I 10 c c<|I 11 c c<|I 12 c c<|I 13 c c<|I 14 c c<|I 15 c c<|I 16 c c<|I 17 c c<|I 18 c c<|U 19 c (aq c c c)<|U 20 c (au c)<|aV (by kernel_rfl)<|aj<|Y ⟨false,c,H5⟩) fun k2 H3=>I 2 c (aU k2)<|I 3 c (aU k2)<|U 4 c (aq c k2 c)<|U 5 c (ah c)<|I 6 c c<|I 7 c c<|U 8 c (aq c c c)<|U 9 c (ah c)<|I 10 c c<|I 11 c c<|I 12 c c<|I 13 c c<|I 14 c c<|I 15 c c<|I 16 c c<|I 17 c c<|I 18 c c<|U 19 c (aq c c c)<|U 20 c (au c)<|aV (by kernel_rfl)<|aj<|Y ⟨false,c,H3⟩
def rA (a0:Ptr) (K:Value->Hp->Prop):Hp->Prop:=br a0.isNone ( K Value.nilIface) ( nn a0 fun q6=>ld (q6.1,q6.2 + 7) cV fun x8=>K x8)
theorem sim_trap_Trap_Unwrap (a0:Ptr) {K:Value->Hp->Prop} {h:Hp} (H:rA a0 K h):Ct prog nr #[(pv a0)] h fun v h'=>∃ r,v = iy r/\K r h':=ay [(pv a0)] func255 c c c fun _=>M<|O c<|al<|M<|J c<|p (cq underlying252 c)<|ad<|aw c H (fun k1 H2=>M<|O c<|aj<|Y ⟨Value.nilIface,c,H2⟩) fun k1 H2=>ao<|M<|J c<|bG H2 fun q6 e3 H4=>p (aJ<|aN c<|ar e3)<|p (ae fld_254_3 c)<|aa<|aW H4 sc_199 c (fun _=>c) c fun x8 H5=>O c<|aj<|Y ⟨x8,c,H5⟩
end
end Go.Proofs.YtemoifebbhoinaaGreatDoor
