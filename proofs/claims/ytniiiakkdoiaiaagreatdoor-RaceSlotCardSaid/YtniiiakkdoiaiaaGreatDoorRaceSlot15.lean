/- Part of the proof of: The law RaceSlot returns true for every input, and leaves its arguments as they were. -/
import Derived.Test.YtniiiakkdoiaiaaGreatDoorRaceSlot14
set_option linter.all false
set_option maxRecDepth 20000
namespace Go.Proofs.YtniiiakkdoiaiaaGreatDoor
open Go Mb
structure IE (k:KK):Prop where
  inv:fo k
  ev:jj k
theorem ie_new {s:fK} (h:PK.sized s = true):IE (KK.new s):=⟨inv_new h,evinv_new s⟩
theorem IE.begin {k:KK} (A:IE k) (hn:k.now < 2 ^ 40) (core env:Int) {c:df} (cw:Cw c):IE (KK.begin_ k core env c).2:=⟨A.inv.begin hn core env cw,A.ev.begin A.inv.ok hn core env c⟩
theorem IE.post {k:KK} (A:IE k) (hn:k.now < 2 ^ 40) (c:Int):IE (KK.post k c).2:=by
  have hI:=A.inv.post hn c
  have hw:=wrapN A.inv.ok.n0 hn
  have he:(KK.post k c).2.events = k.events∧(KK.post k c).2.p = k.p∧(KK.post k c).2.calls = k.calls∧k.now ≤ (KK.post k c).2.now:=by
    unfold KK.post
    split
    · exact ⟨rfl,rfl,rfl,Int.le_refl _⟩
    · split
      · exact ⟨rfl,rfl,rfl,Int.le_refl _⟩
      · exact ⟨rfl,rfl,rfl,by show k.now ≤ IntKind.i64.wrap (k.now + 1); omega⟩
  exact ⟨hI,A.ev.same he.1 (by rw [he.2.1]) he.2.2.2 (fun c x h=>⟨x,by rw [← he.2.2.1]; exact h,rfl,rfl,rfl⟩) (fun c x h=>⟨x,by rw [he.2.2.1]; exact h,rfl⟩)⟩
theorem do_wait {k:PK} {e:Int} {c:df} (h:(PK.do_ k e c).1.2 = false):(PK.do_ k e c).2 = k:=by
  unfold PK.do_ at h ⊢
  split
  · rfl
  · rename_i h1
    rw [if_neg h1] at h
    split
    · rfl
    · rename_i h2
      rw [if_neg h2] at h
      unfold PK.does PK.errs at h ⊢
      repeat' split
      all_goals first | rfl | (exfalso; simp_all; done)
theorem access_keep (k:KK) (c:Int) (x:KC):(KK.access k c x).2.events = k.events∧(KK.access k c x).2.now = k.now∧(KK.access k c x).2.p.s = k.p.s∧(KK.access k c x).2.calls = k.calls∧(KK.access k c x).2.epochs = k.epochs:=by
  unfold KK.access
  split
  · exact ⟨rfl,rfl,rfl,rfl,rfl⟩
  · split
    · exact ⟨rfl,rfl,rfl,rfl,rfl⟩
    · exact ⟨rfl,rfl,touch_s _ _ _,rfl,rfl⟩
theorem work_ev {k:KK} (E:jj k) (hlate:∀ (i:Nat) e,k.events[i]? = some e→e.fBegin < k.now∧e.fEffect < k.now) {c:Nat} {x:KC} (hc:c < k.calls.length) (hcx:k.calls[c]? = some (some x)):jj (KK.work k c x):=by
  unfold KK.work
  by_cases hu:bJ (az x.fc).1 = true
  · rw [if_pos hu]
    obtain ⟨h1,h2,h3,h4,_⟩:=access_keep k c x
    have E2:jj (KK.access k c x).2:=E.same h1 h3 (by rw [h2]; exact Int.le_refl _) (fun d y h=>⟨y,by rw [← h4]; exact h,rfl,rfl,rfl⟩) (fun d y h=>⟨y,by rw [h4]; exact h,rfl⟩)
    exact E2.ends (by rw [h4]; exact hcx) (by rw [h1,h2]; exact hlate) _ _
  · rw [if_neg hu]
    split
    · refine E.same rfl rfl (Int.le_refl _) (fun d y h=>?_) (fun d y h=>?_)
      · simp only [KK.send,KK.clean,KK.tell,Int.toNat_natCast,List.set_set] at h
        rw [List.getElem?_set] at h
        split at h
        · rename_i e
          refine ⟨x,e ▸ hcx,?_⟩
          simp only [hc,if_true,Option.some.injEq] at h
          rw [← h]; exact ⟨rfl,rfl,rfl⟩
        · exact ⟨y,h,rfl,rfl,rfl⟩
      · simp only [KK.send,KK.clean,KK.tell,Int.toNat_natCast,List.set_set]
        rw [List.getElem?_set]
        by_cases e:c = d
        · subst e
          rw [hcx] at h
          cases h
          rw [if_pos rfl,if_pos hc]
          exact ⟨_,rfl,rfl⟩
        · rw [if_neg e]; exact ⟨y,h,rfl⟩
    · split
      · exact E
      · split
        · have E2:jj { k with p:=(PK.do_ k.p x.fenv x.fc).2 }:=E.same rfl (do_s _ _ _) (Int.le_refl _) (fun d y h=>⟨y,h,rfl,rfl,rfl⟩) (fun d y h=>⟨y,h,rfl⟩)
          exact E2.ends hcx hlate _ _
        · rename_i hdone
          rw [do_wait (by simpa using hdone)]
          exact E
theorem tick_now {k:KK} (ok:KK.Ok k) (hn:k.now < 2 ^ 40):(KK.tick k).now = k.now + 1:=wrapN ok.n0 hn
theorem tick_ev {k:KK} (ok:KK.Ok k) (E:jj k) (hn:k.now < 2 ^ 40):jj (KK.tick k):=E.same rfl rfl (by rw [tick_now ok hn]; omega) (fun c x h=>⟨x,h,rfl,rfl,rfl⟩) (fun c x h=>⟨x,h,rfl⟩)
theorem tick_late {k:KK} (ok:KK.Ok k) (E:jj k) (hn:k.now < 2 ^ 40):∀ (i:Nat) e,(KK.tick k).events[i]? = some e→e.fBegin < (KK.tick k).now∧e.fEffect < (KK.tick k).now:=fun i e h=>by
  have o:=E.one i e h
  rw [tick_now ok hn]
  have h1:=o.b1
  have h0:=o.b0
  rcases o.st with h2 | h2
  · exact ⟨by omega,by rw [h2.1]; omega⟩
  · exact ⟨by omega,by omega⟩
theorem IE.step {k:KK} (A:IE k) (hn:k.now < 2 ^ 40) (c:Int):IE (KK.step k c).2:=by
  refine ⟨A.inv.step hn c,?_⟩
  unfold KK.step
  split
  · exact A.ev
  · rename_i hb
    obtain ⟨hi,x,hx⟩:=busy_is (by simpa using hb)
    rw [hx]
    obtain ⟨n,rfl,hlt⟩:=mD hi
    exact work_ev (tick_ev A.inv.ok A.ev hn) (tick_late A.inv.ok A.ev hn) (by show n < k.calls.length; omega) (vz hx)
end Go.Proofs.YtniiiakkdoiaiaaGreatDoor
namespace Go.Proofs.YtniiiakkdoiaiaaGreatDoor
open Go Mb
theorem do_done {k:PK} {e:Int} {c:df} (cw:Cw c) (h9:c.e0 ≠ 9) (hn:1 ≤ k.s.fEnvs∧k.s.fEnvs ≤ 4):(PK.do_ k e c).1.2 = true:=by
  by_cases hb:PK.off k e = true∨Word.check c k.s.fEnvs ≠ 0
  · exact (PK.do_bad hb).2.1
  · simp only [not_or,Bool.not_eq_true,Decidable.not_not] at hb
    have w:=tE hn.1 hn.2 hb.2
    rw [PK.do_good hb.1 hb.2]
    unfold PK.does PK.errs
    rw [PK.w0 w]
    repeat' split
    all_goals first | rfl | (exfalso; omega)
theorem waitsFrom_none {n o:Int}:∀ {l:List Int} {i:Int},(∀ (j:Nat) (a:Int),l[j]? = some a→o ≠ i + j→n ≤ a)→Epochs.waitsFrom n o l i = []
  | [],_,_=>rfl
  | b::l,i,h=>by
    rw [Epochs.waitsFrom,if_neg]
    · exact waitsFrom_none fun j a hj ho=>h (j + 1) a (by simpa using hj) (by omega)
    · rintro ⟨h1,h2⟩
      have:=h 0 b rfl (by simpa using h2)
      omega
theorem done_of {k:KK} {n:Int} {d:Nat} (h1:1 ≤ n) (h2:n ≤ k.epochs.1.length) (ho:k.epochs.1[(n - 1).toNat]? = some (d:Int)) (h:∀ c,c < k.epochs.2.length→c ≠ d→n ≤ heard k c):Epochs.done k.epochs n = true:=by
  unfold Epochs.done
  simp only [Bool.and_eq_true,decide_eq_true_eq]
  refine ⟨⟨h1,h2⟩,?_⟩
  unfold Epochs.waits
  rw [if_neg (by unfold Epochs.now; omega)]
  have hov:k.epochs.1.getD (n - 1).toNat 0 = d:=by rw [List.getD_eq_getElem?_getD,ho]; rfl
  rw [hov]
  refine waitsFrom_none fun j a hj hne=>?_
  have hlt:=(List.getElem?_eq_some_iff.1 hj).1
  have:=h j hlt (by omega)
  unfold heard at this
  rw [List.getD_eq_getElem?_getD,hj] at this
  exact this
structure Closed (P:KK→Prop):Prop where
  inv:∀ {k:KK},P k→fo k
  post:∀ {k:KK},P k→k.now < 2 ^ 40→∀ c:Int,P (KK.post k c).2
  step:∀ {k:KK},P k→k.now < 2 ^ 40→∀ c:Int,P (KK.step k c).2
variable {P:KK→Prop}
structure Posted (k k':KK) (c:Nat):Prop where
  calls:k'.calls = k.calls
  own:k'.epochs.1 = k.epochs.1
  p:k'.p = k.p
  events:k'.events = k.events
  up:∀ d,heard k d ≤ heard k' d
  now:k'.now = k.now + 1
  box:Mail.box k'.boxes c = (Mail.box k.boxes c).drop 1
theorem post_posted {k:KK} (A:fo k) (hn:k.now < 2 ^ 40) {c:Nat} (h:0 < KK.mail k c):Posted k (KK.post k c).2 c:=by
  have hi:KK.is k c = true:=by
    unfold KK.mail at h; split at h
    · assumption
    · omega
  unfold KK.mail at h
  rw [if_pos hi] at h
  have hw:Mail.waits k.boxes c ≠ 0:=by omega
  obtain ⟨n,e1,hlt⟩:=mD hi
  have hlt:c < k.calls.length:=by omega
  have hbl:k.boxes.length = k.calls.length:=by have:=A.ok.bl; have:=A.ok.cl; omega
  have hel:k.epochs.2.length = k.calls.length:=by have:=A.ok.el; have:=A.ok.cl; omega
  have htk:Mail.take k.boxes c = (((Mail.box k.boxes c).getD 0 0,true),k.boxes.set c ((Mail.box k.boxes c).drop 1)):=by
    unfold Mail.take; rw [if_neg hw]; simp
  have ht:=tick_now A.ok hn
  unfold KK.post
  rw [if_neg (by rw [hi]; simp),htk,if_neg (by simp)]
  refine ⟨rfl,?_,rfl,rfl,fun d=>?_,ht,?_⟩
  · show (Epochs.ack k.epochs c _).2.1 = _
    unfold Epochs.ack; split <;> rfl
  · show heard k d ≤ (Epochs.ack k.epochs c ((Mail.box k.boxes c).getD 0 0)).2.2.getD d 0
    unfold Epochs.ack
    split
    · show heard k d ≤ (k.epochs.2.set (c:Int).toNat (mx (k.epochs.2.getD (c:Int).toNat 0) _)).getD d 0
      simp only [Int.toNat_natCast,List.getD_eq_getElem?_getD,List.getElem?_set]
      by_cases e:c = d
      · subst e
        rw [if_pos rfl,if_pos (by omega)]
        unfold heard
        rw [List.getD_eq_getElem?_getD]
        show _ ≤ mx _ _
        unfold mx; split <;> omega
      · rw [if_neg e]
        unfold heard; rw [List.getD_eq_getElem?_getD]; exact Int.le_refl _
    · exact Int.le_refl _
  · show Mail.box (k.boxes.set c ((Mail.box k.boxes c).drop 1)) c = _
    simp only [Mail.box,Int.toNat_natCast,List.getD_eq_getElem?_getD,List.getElem?_set]
    rw [if_pos trivial,if_pos (by omega)]; rfl
structure Drained (P:KK→Prop) (k k':KK) (c n:Nat):Prop where
  all:P k'
  calls:k'.calls = k.calls
  own:k'.epochs.1 = k.epochs.1
  p:k'.p = k.p
  events:k'.events = k.events
  up:∀ d,heard k d ≤ heard k' d
  lo:k.now ≤ k'.now
  now:k'.now ≤ k.now + n
  box:Mail.box k'.boxes c = []
theorem mail_len {k:KK} {c:Nat} (ok:KK.Ok k) (hc:c < k.calls.length):KK.mail k c = ((Mail.box k.boxes c).length:Int):=by
  have hbl:k.boxes.length = k.calls.length:=by have:=ok.bl; have:=ok.cl; omega
  have hi:KK.is k c = true:=by unfold KK.is; exact decide_eq_true (by omega)
  unfold KK.mail Mail.waits
  rw [if_pos hi,if_pos (by unfold Mail.has; exact decide_eq_true (by omega))]
theorem drain_drained (hp:Closed P) {c:Nat}:∀ (n:Nat) {k:KK},P k→c < k.calls.length→(Mail.box k.boxes c).length ≤ n→k.now + n < 2 ^ 40→Drained P k (KK.drain c n k) c n
  | 0,k,A,hc,hl,hn=>⟨A,rfl,rfl,rfl,rfl,fun _=>Int.le_refl _,Int.le_refl _,by show k.now ≤ k.now + 0; omega,List.eq_nil_of_length_eq_zero (by show (Mail.box k.boxes c).length = 0; omega)⟩
  | n + 1,k,A,hc,hl,hn=>by
    rw [KK.drain]
    by_cases hm:0 < KK.mail k c
    · rw [if_pos hm]
      have Q:=post_posted (hp.inv A) (by omega) hm
      have A':=hp.post A (by omega) c
      have D:=drain_drained hp n A' (by rw [Q.calls]; exact hc) (by rw [Q.box,List.length_drop]; omega) (by rw [Q.now]; omega)
      have h1:=Q.now
      have h2:=D.now
      have h3:=D.lo
      exact ⟨D.all,D.calls.trans Q.calls,D.own.trans Q.own,D.p.trans Q.p,D.events.trans Q.events,fun d=>Int.le_trans (Q.up d) (D.up d),by omega,by omega,D.box⟩
    · rw [if_neg hm]
      rw [mail_len (hp.inv A).ok hc] at hm
      exact ⟨A,rfl,rfl,rfl,rfl,fun _=>Int.le_refl _,Int.le_refl _,by omega,List.eq_nil_of_length_eq_zero (by omega)⟩
structure Stepped (k k':KK) (c:Nat):Prop where
  other:∀ d,d ≠ c→k'.calls[d]? = k.calls[d]?
  len:k'.calls.length = k.calls.length
  own:∃ m,k'.epochs.1 = k.epochs.1++m∧m.length ≤ 1
  heard:∀ d,heard k' d = heard k d
theorem step_stepped {k:KK} (A:fo k) {c:Nat} {x:KC} (hc:c < k.calls.length) (hx:k.calls[c]? = some (some x)):Stepped k (KK.step k c).2 c ∧
    (x.fc.e0 ≠ 9→(KK.step k c).2.calls[c]? = some none∨∃ y,(KK.step k c).2.calls[c]? = some (some y)∧y.ftold = true∧y.fc = x.fc) ∧
    (x.ftold = true→Epochs.done k.epochs x.fepoch = true→(KK.step k c).2.calls[c]? = some none):=by
  have hi:KK.is k c = true:=by unfold KK.is; exact decide_eq_true (by omega)
  have hcall:KK.call k c = some x:=by unfold KK.call; rw [Int.toNat_natCast,List.getD_eq_getElem?_getD,hx]; rfl
  have hb:KK.busy k c = true:=by unfold KK.busy; rw [hi,hcall]; rfl
  have cw:=A.cw c x hx
  have hstep:(KK.step k c).2 = KK.work (KK.tick k) c x:=by unfold KK.step; rw [if_neg (by rw [hb]; simp),hcall]
  have ends_c:∀ (m:KK) (a:eJ) (l:jI),m.calls = k.calls→(KK.ends m c x a l).calls = k.calls.set c none:=fun m a l h=>by unfold KK.ends; simp [h]
  have set_none:∀ d,d ≠ c→(k.calls.set c none)[d]? = k.calls[d]?:=fun d h=>by rw [List.getElem?_set,if_neg (fun e=>h e.symm)]
  have at_none:(k.calls.set c none)[c]? = some none:=by rw [List.getElem?_set,if_pos rfl,if_pos hc]
  have told_nu:x.ftold = true→¬ bJ (az x.fc).1 = true:=fun ht hu=>by
    have T:=A.teller ⟨hx,ht⟩
    have w:=tE A.en.1 A.en.2 T.k
    have:=T.t
    rw [vy w.kind] at hu
    unfold bJ at hu
    unfold Tk at this
    simp at hu
    omega
  rw [hstep]
  unfold KK.work
  by_cases hu:bJ (az x.fc).1 = true
  · rw [if_pos hu]
    have ha:(KK.access (KK.tick k) c x).2.calls = k.calls∧(KK.access (KK.tick k) c x).2.epochs = k.epochs:=by
      unfold KK.access
      split
      · exact ⟨rfl,rfl⟩
      · split <;> exact ⟨rfl,rfl⟩
    have hcs:=ends_c (KK.access (KK.tick k) c x).2 (KK.access (KK.tick k) c x).1.1 (KK.access (KK.tick k) c x).1.2 ha.1
    have hep:(KK.ends (KK.access (KK.tick k) c x).2 c x (KK.access (KK.tick k) c x).1.1 (KK.access (KK.tick k) c x).1.2).epochs = k.epochs:=ha.2
    refine ⟨⟨fun d h=>by rw [hcs]; exact set_none d h,by rw [hcs]; simp,⟨[],by rw [hep]; simp,Nat.zero_le _⟩,fun d=>by unfold heard; rw [hep]⟩,fun _=>.inl (by rw [hcs]; exact at_none),fun ht=>absurd hu (told_nu ht)⟩
  · rw [if_neg hu]
    by_cases ht:x.ftold = false∧KK.takes (KK.tick k).p x = true
    · rw [if_pos ht]
      have hcs:(KK.send (KK.clean (KK.tell (KK.tick k) c x) c) c x).calls = k.calls.set c (some { x with ftold:=true,fepoch:=(Epochs.begin_ k.epochs c).1.1 }):=by
        simp only [KK.send,KK.clean,KK.tell,KK.tick,Int.toNat_natCast,List.set_set]
      have hep:(KK.send (KK.clean (KK.tell (KK.tick k) c x) c) c x).epochs = (Epochs.begin_ k.epochs c).2:=rfl
      have hel:k.epochs.2.length = k.calls.length:=by have:=A.ok.el; have:=A.ok.cl; omega
      have he:(Epochs.begin_ k.epochs c).2 = (k.epochs.1++[(c:Int)],k.epochs.2):=by
        have:Epochs.is k.epochs c = true:=by unfold Epochs.is; exact decide_eq_true (by omega)
        unfold Epochs.begin_
        rw [if_pos this]
      refine ⟨⟨fun d h=>by rw [hcs,List.getElem?_set,if_neg (fun e=>h e.symm)],by rw [hcs]; simp,⟨[(c:Int)],by rw [hep,he],Nat.le_refl _⟩,fun d=>by unfold heard; rw [hep,he]⟩,fun _=>.inr ⟨{ x with ftold:=true,fepoch:=(Epochs.begin_ k.epochs c).1.1 },by rw [hcs,List.getElem?_set,if_pos rfl,if_pos hc],rfl,rfl⟩,fun h=>by rw [ht.1] at h; cases h⟩
    · rw [if_neg ht]
      by_cases hd:x.ftold = true∧Epochs.done (KK.tick k).epochs x.fepoch = false
      · rw [if_pos hd]
        refine ⟨⟨fun d h=>rfl,rfl,⟨[],by simp [KK.tick],Nat.zero_le _⟩,fun d=>rfl⟩,fun _=>.inr ⟨x,hx,hd.1,rfl⟩,fun h1 h2=>?_⟩
        have:=hd.2
        rw [show (KK.tick k).epochs = k.epochs from rfl,h2] at this
        cases this
      · rw [if_neg hd]
        by_cases h9:x.fc.e0 = 9
        · have hnt:¬ x.ftold = true:=fun h=>by
            have:=(A.teller ⟨hx,h⟩).t
            unfold Tk at this; omega
          split
          · have hcs:=ends_c { KK.tick k with p:=(PK.do_ (KK.tick k).p x.fenv x.fc).2 } (PK.do_ (KK.tick k).p x.fenv x.fc).1.1 ii rfl
            refine ⟨⟨fun d h=>by rw [hcs]; exact set_none d h,by rw [hcs]; simp,⟨[],by show k.epochs.1 = k.epochs.1++[]; simp,Nat.zero_le _⟩,fun d=>rfl⟩,fun h=>absurd h9 h,fun h=>absurd h hnt⟩
          · exact ⟨⟨fun d h=>rfl,rfl,⟨[],by show k.epochs.1 = k.epochs.1++[]; simp,Nat.zero_le _⟩,fun d=>rfl⟩,fun h=>absurd h9 h,fun h=>absurd h hnt⟩
        · have hdn:(PK.do_ (KK.tick k).p x.fenv x.fc).1.2 = true:=do_done cw h9 A.en
          rw [if_pos hdn]
          have hcs:=ends_c { KK.tick k with p:=(PK.do_ (KK.tick k).p x.fenv x.fc).2 } (PK.do_ (KK.tick k).p x.fenv x.fc).1.1 ii rfl
          refine ⟨⟨fun d h=>by rw [hcs]; exact set_none d h,by rw [hcs]; simp,⟨[],by show k.epochs.1 = k.epochs.1++[]; simp,Nat.zero_le _⟩,fun d=>rfl⟩,fun _=>.inl (by rw [hcs]; exact at_none),fun _ _=>by rw [hcs]; exact at_none⟩
structure Turned (P:KK→Prop) (k k':KK) (c:Nat):Prop where
  all:P k'
  other:∀ d,d ≠ c→k'.calls[d]? = k.calls[d]?
  len:k'.calls.length = k.calls.length
  own:∃ m,k'.epochs.1 = k.epochs.1++m∧m.length ≤ 1
  up:∀ d,heard k d ≤ heard k' d
  self:∀ n:Nat,n < k.epochs.1.length→k.epochs.1[n]? ≠ some (c:Int)→(n:Int) + 1 ≤ heard k' c
  lo:k.now ≤ k'.now
  now:k'.now ≤ k.now + 5001
theorem busy_nat {k:KK} {c:Nat} (hc:c < k.calls.length):KK.busy k c = true↔∃ x,k.calls[c]? = some (some x):=by
  have hi:KK.is k c = true:=by unfold KK.is; exact decide_eq_true (by omega)
  unfold KK.busy KK.call
  rw [hi,Int.toNat_natCast,List.getD_eq_getElem?_getD,List.getElem?_eq_getElem hc]
  cases k.calls[c] with
  | none=>simp
  | some x=>simp
theorem turn_turned (hp:Closed P) {k:KK} (A:P k) {c:Nat} (hc:c < k.calls.length) (hb:k.epochs.1.length ≤ 5000) (hnow:k.now < 2 ^ 35):Turned P k (KK.turn1 k c).1 c∧((KK.turn1 k c).2 = true↔∃ x,k.calls[c]? = some (some x)) ∧
    (k.calls[c]? = some none→(KK.turn1 k c).1.calls[c]? = some none) ∧
    (∀ x,k.calls[c]? = some (some x)→x.fc.e0 ≠ 9→(KK.turn1 k c).1.calls[c]? = some none∨∃ y,(KK.turn1 k c).1.calls[c]? = some (some y)∧y.ftold = true∧y.fc = x.fc) ∧
    (∀ x,k.calls[c]? = some (some x)→x.ftold = true→(∀ d,d < k.calls.length→d ≠ c→x.fepoch ≤ heard k d)→(KK.turn1 k c).1.calls[c]? = some none):=by
  have hbox:(Mail.box k.boxes c).length ≤ 5000:=by
    have:=box_len (box_of (hp.inv A).ok.bx (c:Int))
    omega
  have D:=drain_drained hp 5000 A hc hbox (by omega)
  have hself:∀ n:Nat,n < k.epochs.1.length→k.epochs.1[n]? ≠ some (c:Int)→(n:Int) + 1 ≤ heard (KK.drain c 5000 k) c:=by
    intro n h1 h2
    rcases (hp.inv D.all).mail c n (by rw [D.calls]; exact hc) (by rw [D.own]; exact h1) (by rw [D.own]; exact h2) with h | h
    · exact h
    · rw [D.box] at h; cases h
  unfold KK.turn1
  have hd:(KK.drain (c:Int) 5000 k) = KK.drain c 5000 k:=rfl
  by_cases hbz:KK.busy (KK.drain c 5000 k) c = true
  · rw [if_pos hbz]
    dsimp only
    have hcd:c < (KK.drain c 5000 k).calls.length:=by rw [D.calls]; exact hc
    obtain ⟨x,hx⟩:=(busy_nat hcd).1 hbz
    obtain ⟨S,s1,s2⟩:=step_stepped (hp.inv D.all) hcd hx
    have hx':k.calls[c]? = some (some x):=by rw [← D.calls]; exact hx
    have hn:=KK.step_now (k:=KK.drain c 5000 k) (hp.inv D.all).ok.n0 (by have:=D.now; omega) c
    refine ⟨⟨hp.step D.all (by have:=D.now; omega) c,fun d h=>by rw [S.other d h,D.calls],by rw [S.len,D.calls],?_,fun d=>by rw [S.heard]; exact D.up d,fun n h1 h2=>by rw [S.heard]; exact hself n h1 h2,by have:=D.lo; omega,by have:=D.now; omega⟩,⟨fun _=>⟨x,hx'⟩,fun _=>rfl⟩,fun h=>(by rw [hx'] at h; cases h),fun y hy h9=>?_,fun y hy ht hh=>?_⟩
    · obtain ⟨m,hm,hl⟩:=S.own
      exact ⟨m,by rw [hm,D.own],hl⟩
    · rw [hx'] at hy; cases hy; exact s1 h9
    · rw [hx'] at hy; cases hy
      refine s2 ht ?_
      have T:=(hp.inv D.all).told c x ⟨hx,ht⟩
      have hel:(KK.drain c 5000 k).epochs.2.length = k.calls.length:=by have:=(hp.inv D.all).ok.el; have:=(hp.inv D.all).ok.cl; rw [D.calls] at this; omega
      exact done_of T.2.1 T.2.2.1 T.2.2.2 fun d hdl hne=>Int.le_trans (hh d (by omega) hne) (D.up d)
  · rw [if_neg hbz]
    dsimp only
    have hcd:c < (KK.drain c 5000 k).calls.length:=by rw [D.calls]; exact hc
    have hno:¬ ∃ x,k.calls[c]? = some (some x):=fun ⟨x,h⟩=>hbz ((busy_nat hcd).2 ⟨x,by rw [D.calls]; exact h⟩)
    refine ⟨⟨D.all,fun d _=>by rw [D.calls],by rw [D.calls],⟨[],by rw [D.own]; simp,Nat.zero_le _⟩,D.up,hself,D.lo,by have:=D.now; omega⟩,⟨fun h=>(by cases h),fun h=>absurd h hno⟩,fun h=>by rw [D.calls]; exact h,fun y hy=>absurd ⟨y,hy⟩ hno,fun y hy=>absurd ⟨y,hy⟩ hno⟩
end Go.Proofs.YtniiiakkdoiaiaaGreatDoor
namespace Go.Proofs.YtniiiakkdoiaiaaGreatDoor
open Go Mb
variable {P:KK→Prop}
structure Swept (P:KK→Prop) (n c:Nat) (k k':KK) (b b':Bool):Prop where
  all:P k'
  len:k'.calls.length = k.calls.length
  own:∃ m,k'.epochs.1 = k.epochs.1++m∧m.length ≤ n
  up:∀ d,heard k d ≤ heard k' d
  lo:k.now ≤ k'.now
  now:k'.now ≤ k.now + n * 5001
  other:∀ d:Nat,d < c∨c + n ≤ d→k'.calls[d]? = k.calls[d]?
  none_:∀ d:Nat,k.calls[d]? = some none→k'.calls[d]? = some none
  busy:b' = true↔b = true∨∃ (d:Nat) (x:KC),c ≤ d∧d < c + n∧k.calls[d]? = some (some x)
  self:∀ d:Nat,c ≤ d→d < c + n→d < k.calls.length→∀ m:Nat,m < k.epochs.1.length→k.epochs.1[m]? ≠ some (d:Int)→(m:Int) + 1 ≤ heard k' d
  told:∀ (d:Nat) x,c ≤ d→d < c + n→k.calls[d]? = some (some x)→x.fc.e0 ≠ 9→k'.calls[d]? = some none∨∃ y,k'.calls[d]? = some (some y)∧y.ftold = true∧y.fc = x.fc∧∀ e,d < e→e < c + n→e < k.calls.length→y.fepoch ≤ heard k' e
  fin:∀ (d:Nat) x,c ≤ d→d < c + n→k.calls[d]? = some (some x)→x.ftold = true→(∀ e,e < k.calls.length→(e < c∨d < e)→x.fepoch ≤ heard k e)→k'.calls[d]? = some none
theorem turn_out {k:KK} {c:Nat} (hc:k.calls.length ≤ c):KK.turn1 k c = (k,false):=by
  have hi:KK.is k c = false:=by unfold KK.is; exact decide_eq_false (by omega)
  have hm:KK.mail k c = 0:=by unfold KK.mail; rw [hi]; rfl
  have hd:KK.drain (c:Int) 5000 k = k:=by
    rw [show (5000:Nat) = 4999 + 1 from rfl,KK.drain,if_neg (by rw [hm]; omega)]
  have hb:KK.busy k c = false:=by unfold KK.busy; rw [hi]; rfl
  unfold KK.turn1
  rw [hd,if_neg (by rw [hb]; decide)]
theorem qy (hp:Closed P):∀ (n:Nat) {c:Nat} {k:KK} (b:Bool),P k→k.epochs.1.length + n ≤ 5000→k.now + n * 5001 < 2 ^ 35→Swept P n c k (KK.sweep n c k b).1 b (KK.sweep n c k b).2
  | 0,c,k,b,A,_,_=>⟨A,rfl,⟨[],by simp [KK.sweep],Nat.zero_le _⟩,fun _=>Int.le_refl _,Int.le_refl _,by simp [KK.sweep],fun _ _=>rfl,fun _ h=>h,⟨fun h=>.inl h,fun h=>by
      rcases h with h | ⟨d,x,h1,h2,_⟩
      · exact h
      · omega⟩,fun d h1 h2=>by omega,fun d x h1 h2=>by omega,fun d x h1 h2=>by omega⟩
  | n + 1,c,k,b,A,hl,hn=>by
    have hI:=hp.inv A
    have e1:KK.sweep (n + 1) c k b = KK.sweep n ((c + 1:Nat):Int) (KK.turn1 k c).1 ((KK.turn1 k c).2 || b):=rfl
    rw [e1]
    rcases Nat.lt_or_ge c k.calls.length with hc | hc
    · obtain ⟨T,t1,t2,t3,t4⟩:=turn_turned hp A hc (by omega) (by omega)
      obtain ⟨m1,hm1,hl1⟩:=T.own
      have hn1:=T.now
      have hlo1:=T.lo
      have S:=qy hp n (c:=c + 1) ((KK.turn1 k c).2 || b) T.all (by rw [hm1,List.length_append]; omega) (by omega)
      obtain ⟨m2,hm2,hl2⟩:=S.own
      have hn2:=S.now
      have hlo2:=S.lo
      have own1:∀ m:Nat,m < k.epochs.1.length→(KK.turn1 k c).1.epochs.1[m]? = k.epochs.1[m]?:=fun m h=>by rw [hm1,List.getElem?_append_left h]
      have len1:k.epochs.1.length ≤ (KK.turn1 k c).1.epochs.1.length:=by rw [hm1,List.length_append]; omega
      have hS:=S.self
      have hTl:=T.len
      refine ⟨S.all,S.len.trans T.len,⟨m1++m2,by rw [hm2,hm1,List.append_assoc],by rw [List.length_append]; omega⟩,fun d=>Int.le_trans (T.up d) (S.up d),by omega,by omega,fun d h=>?_,fun d h=>?_,?_,fun d h1 h2 h3 m h4 h5=>?_,fun d x h1 h2 h3 h4=>?_,fun d x h1 h2 h3 h4 h5=>?_⟩
      · rw [S.other d (by omega),T.other d (by omega)]
      · refine S.none_ d ?_
        by_cases e:d = c
        · subst e; exact t2 h
        · rw [T.other d e]; exact h
      · rw [S.busy,Bool.or_eq_true,t1]
        constructor
        · rintro ((⟨x,h⟩ | h) | ⟨d,x,h1,h2,h3⟩)
          · exact .inr ⟨c,x,Nat.le_refl _,by omega,h⟩
          · exact .inl h
          · rw [T.other d (by omega)] at h3
            exact .inr ⟨d,x,by omega,by omega,h3⟩
        · rintro (h | ⟨d,x,h1,h2,h3⟩)
          · exact .inl (.inr h)
          · by_cases e:d = c
            · subst e; exact .inl (.inl ⟨x,h3⟩)
            · exact .inr ⟨d,x,by omega,by omega,by rw [T.other d e]; exact h3⟩
      · by_cases e:d = c
        · subst e
          exact Int.le_trans (T.self m h4 h5) (S.up d)
        · exact hS d (by omega) (by omega) (by omega) m (by omega) (by rw [own1 m h4]; exact h5)
      · by_cases e:d = c
        · subst e
          rcases t3 x h3 h4 with h6 | ⟨y,h6,h7,h8⟩
          · exact .inl (by rw [S.other d (by omega)]; exact h6)
          · refine .inr ⟨y,by rw [S.other d (by omega)]; exact h6,h7,h8,fun e h9 h10 h11=>?_⟩
            have Q:=(hp.inv T.all).told d y ⟨h6,h7⟩
            have:=hS e (by omega) (by omega) (by omega) (y.fepoch - 1).toNat (by omega) (by rw [Q.2.2.2]; intro h; injection h with h; omega)
            omega
        · rcases S.told d x (by omega) (by omega) (by rw [T.other d e]; exact h3) h4 with h6 | ⟨y,h6,h7,h8,h9⟩
          · exact .inl h6
          · exact .inr ⟨y,h6,h7,h8,fun e h10 h11 h12=>h9 e h10 (by omega) (by omega)⟩
      · by_cases e:d = c
        · subst e
          rw [S.other d (by omega)]
          exact t4 x h3 h4 fun a ha hne=>h5 a ha (by omega)
        · have Q:=hI.told d x ⟨h3,h4⟩
          refine S.fin d x (by omega) (by omega) (by rw [T.other d e]; exact h3) h4 fun a ha h=>?_
          by_cases e2:a = c
          · subst e2
            have:=T.self (x.fepoch - 1).toNat (by omega) (by rw [Q.2.2.2]; intro h; injection h with h; omega)
            omega
          · exact Int.le_trans (h5 a (by omega) (by omega)) (T.up a)
    · rw [turn_out hc]
      have S:=qy hp n (c:=c + 1) (false || b) A (by omega) (by omega)
      obtain ⟨m2,hm2,hl2⟩:=S.own
      have hn2:=S.now
      have hno:∀ (d:Nat) (o:Option KC),k.calls[d]? = some o→d < k.calls.length:=fun d o h=>(List.getElem?_eq_some_iff.1 h).1
      refine ⟨S.all,S.len,⟨m2,hm2,by omega⟩,S.up,S.lo,by show (KK.sweep n ((c + 1:Nat):Int) k (false || b)).1.now ≤ _; omega,fun d h=>?_,S.none_,?_,fun d h1 h2 h3=>by omega,fun d x h1 h2 h3 h4=>?_,fun d x h1 h2 h3 h4 h5=>?_⟩
      · rcases h with h | h
        · exact S.other d (by omega)
        · exact S.other d (by omega)
      · rw [S.busy]
        constructor
        · rintro (h | ⟨d,x,h1,h2,h3⟩)
          · exact .inl (by simpa using h)
          · exact .inr ⟨d,x,by omega,by omega,h3⟩
        · rintro (h | ⟨d,x,h1,h2,h3⟩)
          · exact .inl (by simpa using h)
          · have:=hno d _ h3; omega
      · have:=hno d _ h3; omega
      · have:=hno d _ h3; omega
structure Settled (P:KK→Prop) (cores:Nat) (k k':KK):Prop where
  all:P k'
  len:k'.calls.length = k.calls.length
  lo:k.now ≤ k'.now
  now:k'.now ≤ k.now + 3 * (cores * 5001)
  own:k'.epochs.1.length ≤ k.epochs.1.length + 3 * cores
  idle:∀ (d:Nat) x,k'.calls[d]? ≠ some (some x)
theorem settle_settled (hp:Closed P) {cores m:Nat} {k:KK} (A:P k) (hc:k.calls.length ≤ cores) (hc8:cores ≤ 8) (hl:k.epochs.1.length ≤ 4900) (hn:k.now < 2 ^ 34) (h9:∀ (d:Nat) x,k.calls[d]? = some (some x)→x.fc.e0 ≠ 9) :
    (KK.settle cores (m + 3) k).1 = true∧Settled P cores k (KK.settle cores (m + 3) k).2:=by
  have q1:cores * 5001 ≤ 8 * 5001:=Nat.mul_le_mul_right _ hc8
  have q2:((cores * 5001:Nat):Int) ≤ 8 * 5001:=by omega
  have q3:((cores * 5001:Nat):Int) = (cores:Int) * 5001:=by simp
  have inl:∀ {k:KK} {d:Nat} {o:Option KC},k.calls[d]? = some o→d < k.calls.length:=fun h=>(List.getElem?_eq_some_iff.1 h).1
  have none_of:∀ {k k':KK} {b b':Bool},Swept P cores 0 k k' b b'→k.calls.length ≤ cores→b' = false→∀ (d:Nat) x,k'.calls[d]? ≠ some (some x):=by
    intro k k' b b' S hk hb d x h
    have hd:=inl h
    have hk':=S.len
    rcases hcd:k.calls[d]? with _ | _ | y
    · rw [List.getElem?_eq_none_iff] at hcd; omega
    · rw [S.none_ d hcd] at h; cases h
    · have:b' = true:=S.busy.2 (.inr ⟨d,y,Nat.zero_le _,by omega,hcd⟩)
      rw [hb] at this; cases this
  have S1:=qy hp cores (c:=0) (k:=k) false A (by omega) (by omega)
  rw [show m + 3 = (m + 2) + 1 from rfl,KK.settle]
  rw [show KK.sweep cores 0 k false = KK.sweep cores ((0:Nat):Int) k false from rfl]
  generalize KK.sweep cores ((0:Nat):Int) k false = z1 at *
  obtain ⟨k1,b1⟩:=z1
  dsimp only at *
  obtain ⟨m1,hm1,hl1⟩:=S1.own
  have hl1':k1.epochs.1.length ≤ k.epochs.1.length + cores:=by rw [hm1,List.length_append]; omega
  have n1:=S1.now
  by_cases hb1:b1 = false
  · rw [if_pos hb1]
    exact ⟨rfl,S1.all,S1.len,S1.lo,by show k1.now ≤ _; omega,by show k1.epochs.1.length ≤ _; omega,none_of S1 hc hb1⟩
  · rw [if_neg hb1]
    have len1:=S1.len
    have S2:=qy hp cores (c:=0) (k:=k1) false S1.all (by omega) (by omega)
    have all1:∀ (d:Nat) x,k1.calls[d]? = some (some x)→x.ftold = true∧∀ e,d < e→e < k1.calls.length→x.fepoch ≤ heard k1 e:=by
      intro d x h
      have hd:=inl h
      rcases hcd:k.calls[d]? with _ | _ | y
      · rw [List.getElem?_eq_none_iff] at hcd; omega
      · rw [S1.none_ d hcd] at h; cases h
      · rcases S1.told d y (Nat.zero_le _) (by omega) hcd (h9 d y hcd) with h1 | ⟨z,h1,h2,h3,h4⟩
        · rw [h1] at h; cases h
        · rw [h1] at h; cases h
          exact ⟨h2,fun e he hl=>h4 e he (by omega) (by omega)⟩
    have idle2:∀ (d:Nat) x,(KK.sweep cores ((0:Nat):Int) k1 false).1.calls[d]? ≠ some (some x):=by
      intro d x h
      have hd:=inl h
      have len2:=S2.len
      rcases hcd:k1.calls[d]? with _ | _ | y
      · rw [List.getElem?_eq_none_iff] at hcd; omega
      · rw [S2.none_ d hcd] at h; cases h
      · obtain ⟨g1,g2⟩:=all1 d y hcd
        have:=S2.fin d y (Nat.zero_le _) (by omega) hcd g1 fun e he hh=>g2 e (by omega) he
        rw [this] at h; cases h
    rw [show m + 2 = (m + 1) + 1 from rfl,KK.settle]
    rw [show KK.sweep cores 0 k1 false = KK.sweep cores ((0:Nat):Int) k1 false from rfl]
    obtain ⟨m2,hm2,hl2⟩:=S2.own
    have hl2':(KK.sweep cores ((0:Nat):Int) k1 false).1.epochs.1.length ≤ k1.epochs.1.length + cores:=by rw [hm2,List.length_append]; omega
    have n2:=S2.now
    have o1:=S1.lo
    have o2:=S2.lo
    have len2:=S2.len
    generalize KK.sweep cores ((0:Nat):Int) k1 false = z2 at *
    obtain ⟨k2,b2⟩:=z2
    dsimp only at *
    by_cases hb2:b2 = false
    · rw [if_pos hb2]
      exact ⟨rfl,S2.all,by show k2.calls.length = _; omega,by show k.now ≤ k2.now; omega,by show k2.now ≤ _; omega,by show k2.epochs.1.length ≤ _; omega,idle2⟩
    · rw [if_neg hb2]
      have S3:=qy hp cores (c:=0) (k:=k2) false S2.all (by omega) (by omega)
      rw [show m + 1 = m + 1 from rfl,KK.settle]
      rw [show KK.sweep cores 0 k2 false = KK.sweep cores ((0:Nat):Int) k2 false from rfl]
      obtain ⟨m3,hm3,hl3⟩:=S3.own
      have hl3':(KK.sweep cores ((0:Nat):Int) k2 false).1.epochs.1.length ≤ k2.epochs.1.length + cores:=by rw [hm3,List.length_append]; omega
      have n3:=S3.now
      have o3:=S3.lo
      have len3:=S3.len
      have hb3:(KK.sweep cores ((0:Nat):Int) k2 false).2 = false:=by
        cases hz:(KK.sweep cores ((0:Nat):Int) k2 false).2 with
        | false=>rfl
        | true =>
          rcases S3.busy.1 hz with h | ⟨d,x,_,_,h⟩
          · cases h
          · exact absurd h (idle2 d x)
      rw [if_pos hb3]
      exact ⟨rfl,S3.all,by show (KK.sweep cores ((0:Nat):Int) k2 false).1.calls.length = _; omega,by show k.now ≤ (KK.sweep cores ((0:Nat):Int) k2 false).1.now; omega,by show (KK.sweep cores ((0:Nat):Int) k2 false).1.now ≤ _; omega,by show (KK.sweep cores ((0:Nat):Int) k2 false).1.epochs.1.length ≤ _; omega,none_of S3 (by omega) hb3⟩
theorem IE.ended {k:KK} (A:IE k) (h:∀ (d:Nat) x,k.calls[d]? ≠ some (some x)):∀ e ∈ k.events,e.fEnd ≠ 0∧e.fEffect ≠ 0:=by
  intro e he
  obtain ⟨i,hi⟩:=List.getElem?_of_mem he
  have h0:e.fEffect ≠ 0:=fun h0=>by
    obtain ⟨x,hx,_⟩:=A.ev.open_ i e hi h0
    exact h _ x hx
  rcases (A.ev.one i e hi).st with s | s
  · exact absurd s.1 h0
  · exact ⟨by rw [s.2.1]; exact h0,h0⟩
end Go.Proofs.YtniiiakkdoiaiaaGreatDoor
namespace Go.Proofs.YtniiiakkdoiaiaaGreatDoor
open Go Mb
theorem mem_othersFrom {k:PK} {es:List bj} {env pg j:Int}:∀ {L:List Int},j ∈ L→Judge.takes (Judge.ev es j) = true→PK.q (PK.do_ k (Judge.ev es j).fEnv (Judge.ev es j).fCall).2 env pg ∈ Judge.othersFrom k es env pg L
  | i::L,h,ht=>by
    rw [Judge.othersFrom]
    rcases List.mem_cons.1 h with rfl | h
    · rw [if_pos ht]; exact List.mem_cons_self
    · have:=mem_othersFrom (k:=k) (env:=env) (pg:=pg) h ht
      split
      · exact List.mem_cons_of_mem _ this
      · exact this
theorem eqb_answer (a:eJ):ab.eqb a a = true:=by simp [ab.eqb]
theorem eqb_line (a:jI):al.eqb a a = true:=by simp [al.eqb]
def wR (kind:Int):Int:=if kind = 20 then 1 else if kind = 21 then 2 else 3
theorem lets_need {kind:Int} (h:20 ≤ kind∧kind ≤ 23) (r:Int):cr r kind = aP (wR kind) r:=by
  have:kind = 20∨kind = 21∨kind = 22∨kind = 23:=by omega
  rcases this with rfl | rfl | rfl | rfl <;> rfl
theorem left_frame {p:PK} {x:KC} {a pg:Int} {qq:Pte} (h:(KK.left p x a pg qq).fRights ≠ 0):(KK.left p x a pg qq).fFrame = qq.fFrame∧(KK.left p x a pg qq).fSlot = qq.fSlot:=by
  unfold KK.left at h ⊢
  by_cases h7:x.fc.e0 = 7
  · rw [if_pos h7] at h ⊢
    split
    · rename_i hh; rw [if_pos hh] at h; exact absurd rfl h
    · exact ⟨rfl,rfl⟩
  · rw [if_neg h7] at h ⊢
    by_cases h8:x.fc.e0 = 8
    · rw [if_pos h8]; split <;> exact ⟨rfl,rfl⟩
    · rw [if_neg h8] at h ⊢
      split
      · rename_i hh; rw [if_pos hh] at h; exact absurd rfl h
      · exact ⟨rfl,rfl⟩
theorem wL {p:PK} {a pg:Int}:∀ (cs:List (Option KC)) (qq:Pte),KK.seenFrom p a pg cs false qq = (qq,false)
  | [],_=>rfl
  | none::cs,qq=>by rw [KK.seenFrom]; exact wL cs qq
  | some x::cs,qq=>by rw [KK.seenFrom,if_neg (fun h=>Bool.false_ne_true h.1)]; exact wL cs qq
theorem ue {p:PK} {a pg:Int}:∀ (cs:List (Option KC)) (b:Bool) (qq:Pte),(KK.seenFrom p a pg cs b qq).1.fRights ≠ 0→(KK.seenFrom p a pg cs b qq).1.fFrame = qq.fFrame∧(KK.seenFrom p a pg cs b qq).1.fSlot = qq.fSlot
  | [],_,_,_=>⟨rfl,rfl⟩
  | none::cs,b,qq,h=>by rw [KK.seenFrom] at h ⊢; exact ue cs b qq h
  | some x::cs,b,qq,h=>by
    rw [KK.seenFrom] at h ⊢
    by_cases hc:b = true∧x.ftold = true
    · rw [if_pos hc] at h ⊢
      by_cases hz:(KK.left p x a pg qq).fRights = 0
      · rw [hz] at h
        have:((0:Int) != 0) = false:=rfl
        rw [this,wL] at h
        exact absurd hz h
      · obtain ⟨a1,a2⟩:=ue cs _ _ h
        obtain ⟨b1,b2⟩:=left_frame hz
        exact ⟨a1.trans b1,a2.trans b2⟩
    · rw [if_neg hc] at h ⊢; exact ue cs b qq h
theorem put_well {p:Pte} (h:0 ≤ p.fFrame∧p.fFrame < 16∧0 ≤ p.fSlot∧p.fSlot < 8) (hr:1 ≤ p.fRights∧p.fRights ≤ 3):(eN p).2 = true:=by
  unfold eN
  cases hq:am.eqb p ⟨0,0,0⟩ with
  | true=>rfl
  | false =>
    have:(((((decide (p.fFrame < 0)) || (decide (p.fFrame ≥ 16))) || (decide (p.fSlot < 0))) || (decide (p.fSlot ≥ 8))) || (!(ce p.fRights))) = false:=by
      rw [ur.2 hr]; simp; omega
    simp only [cond_false]
    rw [this]; rfl
theorem tabFor_seen {k:KK} (F:PK.Fine k.p) {e pg:Int} {l:jI} (hs:(KK.seen k e pg).2 = true) (hc:Cov (KK.seen k e pg).1 l) (hq:(PK.q k.p e pg).fRights ≠ 0):(Table.get (KK.tabFor k e pg) pg).1 = (KK.seen k e pg).1:=by
  have hr:=hc.r
  have hfs:(KK.seen k e pg).1.fFrame = (PK.q k.p e pg).fFrame∧(KK.seen k e pg).1.fSlot = (PK.q k.p e pg).fSlot:=by
    have h0:(KK.seen k e pg).1.fRights ≠ 0:=by omega
    unfold KK.seen at h0 ⊢
    exact ue _ _ _ h0
  have hb:=F.by_ e pg hq
  have hcap:(Caps.get k.p.caps e (PK.q k.p e pg).fSlot).fRights ≠ 0:=by have:=(db hb.2.2).2; omega
  have hf:=PK.fine_frame F.ok.fine hb.1 hcap
  have hsl:=(PK.has_iff F.ok).1 hb.1
  have hsz:=fM.1 F.ok.sz
  obtain ⟨_,hg,_⟩:=PK.q_on hq
  have hpg:bt pg = true:=by
    by_cases hh:bt pg = true∧(Table.at_ (PK.tab k.p e) pg).fRights ≠ 0
    · exact hh.1
    · rw [Table.get_no hh] at hg; cases hg
  have hz:(Table.insert (List.replicate 8 da) pg (KK.seen k e pg).1).1 = 0:=by
    unfold Table.insert
    have key:∀ n,n < 8→((List.replicate 8 da).getD n da).fRights = 0:=by decide
    obtain ⟨n,e1,hn⟩:=mF hpg
    have hat:(Table.at_ (List.replicate 8 da) pg).fRights = 0:=by unfold Table.at_; rw [e1,Int.toNat_natCast]; exact key n hn
    rw [if_neg,if_neg (by rw [hat]; simp)]
    rw [put_well (by rw [hfs.1,hfs.2,← hb.2.1]; omega) hr,hpg]
    simp; omega
  unfold KK.tabFor
  rw [if_pos hs,Table.get_insert (by simp) _ _ hz,if_pos rfl]
theorem stay_of_aft {p:PK} {e:Int} {c:df} {a pg r:Int} (hq:(PK.q p a pg).fRights ≠ 0) (ht:Tk c) (h:aP r (PK.aft p e c a pg).fRights = true):Stay p e c a pg (PK.q p a pg).fSlot r:=by
  have hno:∀ x:Pte,x = da→aP r x.fRights = true→False:=fun x e1 h1=>by
    have:=(db h1).2; rw [e1] at this; simp at this
  unfold PK.aft at h
  refine ⟨fun h7 ho=>?_,fun h8 e1 e2 hw=>?_,fun h45=>?_⟩
  · rw [if_pos h7,if_pos ho] at h; exact hno _ rfl h
  · rw [if_neg (by omega),if_pos h8,if_pos ⟨⟨e1,e2⟩,by subst e1; subst e2; exact ⟨hq,hw⟩⟩] at h
    exact h
  · cases hg:PK.gz p e c a (PK.q p a pg).fSlot with
    | false=>rfl
    | true=>rw [if_neg (by omega),if_neg (by omega),if_pos ⟨hq,hg⟩] at h; exact (hno _ rfl h).elim
theorem kmem_has {fs:List (List Int)} {f a:Int} (h0:0 ≤ f) (h1:f < fs.length) (h2:0 ≤ a) (h3:a < 16):Mem.has fs f a:=⟨h0,h1,h2,h3⟩
theorem touch_well {k:PK} (ok:PK.Ok k) {f:Int} {c:df} (cw:Cw c) (w:Well k.s.fEnvs c) (hu:20 ≤ c.e0) (h0:0 ≤ f) (h1:f < k.s.fFrames):(PK.touch k f c).1.2 = true∧(PK.touch k f c).1.1.fErr = 0:=by
  have hk:=vy w.kind
  have h2:=w.w7 hu
  have harg:Word.arg c 2 16 = (c.e2,true):=by
    have h3:(Word.arg c 2 16).2 = true:=(arg_of (by decide) (by decide) (by decide) (by decide)).2 h2
    unfold Word.arg at h3 ⊢
    split
    · rename_i hh; rw [if_pos hh] at h3; cases h3
    · show (IntKind.i64.wrap c.e2,true) = _
      rw [kwr cw.c2 h2]
  have hml:=ok.ml
  have hm:Mem.has k.m f c.e2:=kmem_has h0 (by omega) cw.c2 h2
  have hu':bJ c.e0 = true:=by unfold bJ; have:=w.kind; simp; omega
  have hld:(Mem.load k.m f c.e2).2 = true:=by unfold Mem.load; rw [if_pos hm]
  have hst:∀ v,(Mem.store k.m f c.e2 v).1 = true:=fun v=>by unfold Mem.store; rw [if_pos hm]
  unfold PK.touch
  rw [hk,harg]
  simp only
  rw [if_neg (by rw [hu']; simp)]
  repeat' split
  · exact ⟨hld,rfl⟩
  · exact ⟨hst _,rfl⟩
  · refine ⟨?_,rfl⟩
    unfold Mem.cas; split <;> exact hld
  · refine ⟨?_,rfl⟩
    unfold Mem.add; exact hld
theorem walk_cov {k:KK} (I:fo k) {c:Nat} (hc:c < k.calls.length) {x:KC} (h:(KK.accWalk k c x).1.2 = true) (hkind:20 ≤ IntKind.i64.wrap x.fc.e0∧IntKind.i64.wrap x.fc.e0 ≤ 23):Cov (PK.q k.p x.fenv (IntKind.i64.wrap x.fc.e1)) (KK.accWalk k c x).1.1∧(KK.accWalk k c x).1.1.fEnv = x.fenv∧(KK.accWalk k c x).1.1.fPage = IntKind.i64.wrap x.fc.e1∧cr (KK.accWalk k c x).1.1.fRights (IntKind.i64.wrap x.fc.e0) = true:=by
  unfold KK.accWalk at h ⊢
  rw [kbuf_nat] at h ⊢
  unfold User.walk at h ⊢
  split
  · rename_i hf
    have f:=Tlb.find_in (I.tok c hc) hf.1
    have L:=I.line c hc _ f.1 (by rw [f.2.1]; exact f.2.2.2)
    have hcov:=L.cov
    rw [f.2.1,f.2.2.1] at hcov
    exact ⟨hcov,f.2.1,f.2.2.1,hf.2⟩
  · rename_i hnf
    rw [if_neg hnf] at h
    split
    · rename_i hl; rw [if_pos hl] at h; cases h
    · rename_i hl
      have hl':cr (Table.get (KK.tabFor k x.fenv (IntKind.i64.wrap x.fc.e1)) (IntKind.i64.wrap x.fc.e1)).1.fRights (IntKind.i64.wrap x.fc.e0) = true:=by simpa using hl
      have hr:=(db ((lets_need hkind _) ▸ hl')).2
      obtain ⟨s1,s2⟩:=tabFor_get k x.fenv (IntKind.i64.wrap x.fc.e1) (by omega)
      refine ⟨?_,rfl,rfl,hl'⟩
      have hcov:Cov (KK.seen k x.fenv (IntKind.i64.wrap x.fc.e1)).1 (⟨x.fenv,IntKind.i64.wrap x.fc.e1,(Table.get (KK.tabFor k x.fenv (IntKind.i64.wrap x.fc.e1)) (IntKind.i64.wrap x.fc.e1)).1.fFrame,(Table.get (KK.tabFor k x.fenv (IntKind.i64.wrap x.fc.e1)) (IntKind.i64.wrap x.fc.e1)).1.fRights⟩:jI):=by
        refine ⟨?_,?_⟩
        · show (KK.seen k x.fenv (IntKind.i64.wrap x.fc.e1)).1.fFrame = (Table.get (KK.tabFor k x.fenv (IntKind.i64.wrap x.fc.e1)) (IntKind.i64.wrap x.fc.e1)).1.fFrame
          rw [s2]
        · show aP (Table.get (KK.tabFor k x.fenv (IntKind.i64.wrap x.fc.e1)) (IntKind.i64.wrap x.fc.e1)).1.fRights (KK.seen k x.fenv (IntKind.i64.wrap x.fc.e1)).1.fRights = true
          rw [← s2]; exact within_refl hr
      exact ((seen_cov I.en I.F I.tell_all _ _ _).1 ⟨s1,hcov⟩).1
theorem walk_fault {k:KK} (I:fo k) {c:Nat} {x:KC} (h:(KK.accWalk k c x).1.2 = false) (hkind:20 ≤ IntKind.i64.wrap x.fc.e0∧IntKind.i64.wrap x.fc.e0 ≤ 23):cr (PK.q k.p x.fenv (IntKind.i64.wrap x.fc.e1)).fRights (IntKind.i64.wrap x.fc.e0) = false∨∃ d y,Tells k d y∧cr (PK.q (PK.do_ k.p y.fenv y.fc).2 x.fenv (IntKind.i64.wrap x.fc.e1)).fRights (IntKind.i64.wrap x.fc.e0) = false:=by
  have hl:cr (Table.get (KK.tabFor k x.fenv (IntKind.i64.wrap x.fc.e1)) (IntKind.i64.wrap x.fc.e1)).1.fRights (IntKind.i64.wrap x.fc.e0) = false:=by
    unfold KK.accWalk User.walk at h
    split at h
    · cases h
    · split at h
      · rename_i hh; exact hh
      · cases h
  rw [lets_need hkind] at hl ⊢
  cases hq:aP (wR (IntKind.i64.wrap x.fc.e0)) (PK.q k.p x.fenv (IntKind.i64.wrap x.fc.e1)).fRights with
  | false=>exact .inl rfl
  | true =>
    right
    have hne:(PK.q k.p x.fenv (IntKind.i64.wrap x.fc.e1)).fRights ≠ 0:=by have:=(db hq).2; omega
    by_cases hall:∀ y,some y ∈ k.calls→y.ftold = true→Stay k.p y.fenv y.fc x.fenv (IntKind.i64.wrap x.fc.e1) (PK.q k.p x.fenv (IntKind.i64.wrap x.fc.e1)).fSlot (wR (IntKind.i64.wrap x.fc.e0))
    · exfalso
      obtain ⟨s1,s2⟩:=(seen_cov I.en I.F I.tell_all x.fenv (IntKind.i64.wrap x.fc.e1) (⟨x.fenv,IntKind.i64.wrap x.fc.e1,(PK.q k.p x.fenv (IntKind.i64.wrap x.fc.e1)).fFrame,wR (IntKind.i64.wrap x.fc.e0)⟩:jI)).2 ⟨⟨rfl,hq⟩,hall⟩
      rw [tabFor_seen I.F s1 s2 hne,s2.w] at hl
      cases hl
    · simp only [Classical.not_forall] at hall
      obtain ⟨y,hy,hty,hns⟩:=hall
      obtain ⟨d,hd⟩:=calls_mem hy
      refine ⟨d,y,⟨hd,hty⟩,?_⟩
      have T:=I.teller ⟨hd,hty⟩
      have hcs:=I.ok.cs y hy
      rw [lets_need hkind,PK.do_q I.F T.w (PK.off_iff.2 ⟨hcs.2.2.1,hcs.2.2.2⟩) T.k T.t]
      cases ha:aP (wR (IntKind.i64.wrap x.fc.e0)) (PK.aft k.p y.fenv y.fc x.fenv (IntKind.i64.wrap x.fc.e1)).fRights with
      | false=>rfl
      | true=>exact absurd (stay_of_aft hne T.t ha) hns
theorem access_good {k:KK} (I:fo k) {c:Nat} (hc:c < k.calls.length) {x:KC} (hx:k.calls[c]? = some (some x)) (hu:bJ (az x.fc).1 = true) {es:List bj} {e:bj} (h1:e.fCall = x.fc) (h2:e.fEnv = x.fenv) (h3:e.fAnswer = (KK.access k c x).1.1) (h4:e.fLine = (KK.access k c x).1.2)
    (hov:∀ d y,Tells k d y→y.fat ∈ Hist.over es e.fEffect∧(Judge.ev es y.fat).fCall = y.fc∧(Judge.ev es y.fat).fEnv = y.fenv):Judge.access k.p es k.p.s e = true∧(if Judge.well k.p.s e = true then (PK.touch k.p e.fLine.fFrame e.fCall).2 else k.p) = (KK.access k c x).2.p:=by
  have cw:=I.cw c x hx
  unfold Judge.access Judge.well
  rw [h1,h2,h3,h4]
  unfold KK.access
  by_cases hk:Word.check x.fc k.p.s.fEnvs ≠ 0
  · rw [if_pos hk,if_pos hk]
    simp only
    refine ⟨by rw [eqb_answer,eqb_line]; rfl,?_⟩
    have:(Word.check x.fc k.p.s.fEnvs == 0) = false:=by simpa using hk
    rw [this]; simp
  · rw [if_neg hk,if_neg hk]
    have hk0:Word.check x.fc k.p.s.fEnvs = 0:=by simpa using hk
    have w:=tE I.en.1 I.en.2 hk0
    have hkv:=vy w.kind
    have hu0:20 ≤ x.fc.e0∧x.fc.e0 ≤ 23:=by rw [hkv] at hu; unfold bJ at hu; simpa using hu
    have hw0:=PK.w0 w
    have hkind:20 ≤ IntKind.i64.wrap x.fc.e0∧IntKind.i64.wrap x.fc.e0 ≤ 23:=by rw [hw0]; exact hu0
    by_cases hf:(KK.accWalk k c x).1.2 = false
    · rw [if_pos hf]
      simp only [if_true]
      refine ⟨?_,by simp⟩
      rw [eqb_line]
      have hfa:Judge.faults e (Judge.others k.p es e.fEffect x.fenv (IntKind.i64.wrap x.fc.e1)) = true:=by
        unfold Judge.faults Judge.others
        rw [h1,List.any_eq_true]
        rcases walk_fault I hf hkind with h | ⟨d,y,hy,h⟩
        · exact ⟨_,List.mem_cons_self,by show (!(cr (PK.q k.p x.fenv (IntKind.i64.wrap x.fc.e1)).fRights _)) = true; rw [h]; rfl⟩
        · obtain ⟨o1,o2,o3⟩:=hov d y hy
          have T:=I.teller hy
          have htk:Judge.takes (Judge.ev es y.fat) = true:=by
            have wy:=tE I.en.1 I.en.2 T.k
            have:=T.t
            unfold Judge.takes
            rw [o2,vy wy.kind]
            unfold Tk at this
            rcases this with h | h | h | h <;> simp [h]
          have hm:=mem_othersFrom (k:=k.p) (env:=x.fenv) (pg:=IntKind.i64.wrap x.fc.e1) o1 htk
          rw [o2,o3] at hm
          exact ⟨_,List.mem_cons_of_mem _ hm,by rw [h]; rfl⟩
      rw [hfa]; rfl
    · rw [if_neg hf]
      have hf':(KK.accWalk k c x).1.2 = true:=by simpa using hf
      obtain ⟨cv,e1,e2,e3⟩:=walk_cov I hc hf' hkind
      have hne:(PK.q k.p x.fenv (IntKind.i64.wrap x.fc.e1)).fRights ≠ 0:=by have:=cv.r; omega
      have hb:=I.F.by_ _ _ hne
      have hcap:(Caps.get k.p.caps x.fenv (PK.q k.p x.fenv (IntKind.i64.wrap x.fc.e1)).fSlot).fRights ≠ 0:=by have:=(db hb.2.2).2; omega
      have hfr:=PK.fine_frame I.F.ok.fine hb.1 hcap
      rw [hb.2.1,cv.f] at hfr
      obtain ⟨t1,t2⟩:=touch_well I.F.ok cw w hu0.1 hfr.1 hfr.2
      have hlr:=(db cv.w).1
      simp only
      rw [t2,if_neg (by decide)]
      have hgo:Judge.goes e (Judge.others k.p es e.fEffect x.fenv (IntKind.i64.wrap x.fc.e1)) = true:=by
        unfold Judge.goes Judge.others
        rw [h4,List.any_eq_true]
        refine ⟨_,List.mem_cons_self,?_⟩
        unfold KK.access
        rw [if_neg hk,if_neg hf]
        show ((PK.q k.p x.fenv (IntKind.i64.wrap x.fc.e1)).fFrame == _ && _) = true
        rw [cv.f]
        show ((_ == _) && aP _ (PK.q k.p x.fenv (IntKind.i64.wrap x.fc.e1)).fRights) = true
        rw [cv.w]; simp
      have hown:Judge.own e = true:=by
        unfold Judge.own
        rw [h1,h2,h4]
        unfold KK.access
        rw [if_neg hk,if_neg hf]
        simp only
        rw [e1,e2,e3]; simp
      rw [hgo,hown,t1,eqb_answer,hk0]
      refine ⟨rfl,?_⟩
      rw [if_pos]
      simp; omega
end Go.Proofs.YtniiiakkdoiaiaaGreatDoor
namespace Go.Proofs.YtniiiakkdoiaiaaGreatDoor
open Go Mb
namespace Judge
def jstep (es:List bj) (s:fK) (k:PK) (i:Int):PK:=if fq (ev es i) = true then (if well s (ev es i) = true then (PK.touch k (ev es i).fLine.fFrame (ev es i).fCall).2 else k) else (PK.do_ k (ev es i).fEnv (ev es i).fCall).2
def good (es:List bj) (s:fK) (k:PK) (i:Int):Prop:=(fq (ev es i) = true→access k es s (ev es i) = true)∧(fq (ev es i) = false→(PK.do_ k (ev es i).fEnv (ev es i).fCall).1.2 = true∧(PK.do_ k (ev es i).fEnv (ev es i).fCall).1.1 = (ev es i).fAnswer)
def Good (es:List bj) (s:fK):PK→List Int→Prop
  | _,[]=>True
  | k,i::l=>good es s k i∧Good es s (jstep es s k i) l
def jrun (es:List bj) (s:fK):PK→List Int→PK
  | k,[]=>k
  | k,i::l=>jrun es s (jstep es s k i) l
theorem run_good {es:List bj} {s:fK} (lin acc:Bool):∀ {l:List Int} {k:PK},Good es s k l→runFrom es s lin acc k l = (-1,true)
  | [],_,_=>rfl
  | i::l,k,⟨g,h⟩=>by
    have ih:=run_good lin acc h
    rw [runFrom]
    unfold jstep at ih
    by_cases hu:fq (ev es i) = true
    · rw [if_pos hu] at ih ⊢
      rw [if_neg (by rw [g.1 hu]; simp)]
      exact ih
    · rw [if_neg hu] at ih ⊢
      have g2:=g.2 (by simpa using hu)
      rw [if_neg,ih]
      rintro ⟨_,h1 | h1⟩
      · rw [g2.1] at h1; cases h1
      · rw [g2.2,eqb_answer] at h1; cases h1
theorem Good_app {es:List bj} {s:fK} {i:Int}:∀ {l:List Int} {k:PK},Good es s k l→good es s (jrun es s k l) i→Good es s k (l++[i])
  | [],_,_,g=>⟨g,trivial⟩
  | _::_,_,⟨a,b⟩,g=>⟨a,Good_app b g⟩
theorem jrun_app {es:List bj} {s:fK} {i:Int}:∀ {l:List Int} {k:PK},jrun es s k (l++[i]) = jstep es s (jrun es s k l) i
  | [],_=>rfl
  | _::l,_=>jrun_app (l:=l)
structure Alike (es es':List bj) (i:Int):Prop where
  e:ev es' i = ev es i
  o:Hist.over es' (ev es i).fEffect = Hist.over es (ev es i).fEffect
  c:∀ j ∈ Hist.over es (ev es i).fEffect,(ev es' j).fCall = (ev es j).fCall∧(ev es' j).fEnv = (ev es j).fEnv
theorem vt {k:PK} {es es':List bj} {env pg:Int}:∀ {L:List Int},(∀ j ∈ L,(ev es' j).fCall = (ev es j).fCall∧(ev es' j).fEnv = (ev es j).fEnv)→othersFrom k es' env pg L = othersFrom k es env pg L
  | [],_=>rfl
  | i::L,h=>by
    have h1:=h i (by simp)
    have ih:=vt (k:=k) (env:=env) (pg:=pg) (L:=L) (fun j hj=>h j (by simp [hj]))
    have ht:takes (ev es' i) = takes (ev es i):=by unfold takes; rw [h1.1]
    rw [othersFrom,othersFrom,ht,h1.1,h1.2,ih]
theorem Alike.access {es es':List bj} {i:Int} (A:Alike es es' i) (k:PK) (s:fK):access k es' s (ev es' i) = access k es s (ev es i):=by
  have ho:others k es' (ev es i).fEffect (ev es i).fEnv (IntKind.i64.wrap (ev es i).fCall.e1) = others k es (ev es i).fEffect (ev es i).fEnv (IntKind.i64.wrap (ev es i).fCall.e1):=by
    unfold others
    rw [A.o,vt A.c]
  unfold Judge.access
  rw [A.e,ho]
theorem Alike.good {es es':List bj} {i:Int} (A:Alike es es' i) {k:PK} {s:fK} (g:good es s k i):good es' s k i:=by
  have h:=A.access k s
  unfold Judge.good at g ⊢
  rw [h,A.e]; exact g
theorem Alike.jstep {es es':List bj} {i:Int} (A:Alike es es' i) (k:PK) (s:fK):jstep es' s k i = jstep es s k i:=by
  unfold Judge.jstep; rw [A.e]
theorem Good_alike {es es':List bj} {s:fK}:∀ {l:List Int} {k:PK},(∀ i ∈ l,Alike es es' i)→Good es s k l→Good es' s k l∧jrun es' s k l = jrun es s k l
  | [],_,_,_=>⟨trivial,rfl⟩
  | i::l,k,h,⟨a,b⟩=>by
    have A:=h i (by simp)
    obtain ⟨h1,h2⟩:=Good_alike (l:=l) (fun j hj=>h j (by simp [hj])) b
    have ej:=A.jstep k s
    refine ⟨⟨A.good a,by rw [ej]; exact h1⟩,?_⟩
    rw [jrun,jrun,ej]; exact h2
end Judge
theorem ev_get {es:List bj} {n:Nat} {e:bj} (h:es[n]? = some e):Judge.ev es n = e:=by simp [Judge.ev,h]
theorem placesFrom_set (P:bj→Bool):∀ (es:List bj) (n:Nat) (d e:bj) (i:Int),es[n]? = some d→P e = P d→Hist.placesFrom P (es.set n e) i = Hist.placesFrom P es i
  | [],_,_,_,_,h,_=>by simp at h
  | a::es,0,d,e,i,h,hp=>by
    simp at h; subst h
    rw [List.set_cons_zero,Hist.placesFrom,Hist.placesFrom,hp]
  | a::es,n + 1,d,e,i,h,hp=>by
    rw [List.set_cons_succ,Hist.placesFrom,Hist.placesFrom,placesFrom_set P es n d e (i + 1) (by simpa using h) hp]
theorem uI (P:bj→Bool):∀ (es:List bj) (i:Int),(Hist.placesFrom P es i).Nodup
  | [],_=>.nil
  | e::es,i=>by
    rw [Hist.placesFrom]
    split
    · refine List.nodup_cons.2 ⟨fun h=>?_,uI P es (i + 1)⟩
      obtain ⟨n,_,_,h2,_⟩:=Hist.mem_placesFrom.1 h
      omega
    · exact uI P es (i + 1)
structure Log (k:KK) (log:List Int):Prop where
  mem:∀ i,i ∈ log↔∃ (n:Nat) (e:bj),k.events[n]? = some e∧i = n∧e.fEffect > 0
  up:log.Pairwise (fun a b=>Hist.eff k.events a < Hist.eff k.events b)
  good:Judge.Good k.events k.p.s (PK.new k.p.s) log
  run:Judge.jrun k.events k.p.s (PK.new k.p.s) log = k.p
theorem Log.nodup {k:KK} {log:List Int} (L:Log k log):log.Nodup:=L.up.imp (fun h e=>by rw [e] at h; exact absurd h (Int.lt_irrefl _))
theorem jj.apart {k:KK} (E:jj k):Hist.Apart k.events:=by
  intro a b ha hb he
  obtain ⟨n,d,h1,rfl,h2⟩:=Hist.mem_places.1 ha
  obtain ⟨m,e,h3,rfl,h4⟩:=Hist.mem_places.1 hb
  rw [Hist.eff_nat h1,Hist.eff_nat h3] at he
  have:=E.ef n m d e h1 h3 (by simpa using h2) he
  rw [this]
theorem Log.order {k:KK} {log:List Int} (E:jj k) (L:Log k log):log = Hist.order k.events:=by
  refine Hist.order_of E.apart ?_ (L.up.imp (fun h=>Int.le_of_lt h))
  refine (List.perm_ext_iff_of_nodup L.nodup (uI _ _ _)).2 fun i=>?_
  rw [L.mem]
  show _↔i ∈ Hist.places _ _
  rw [Hist.mem_places]
  simp
theorem log_new (s:fK):Log (KK.new s) []:=by
  refine ⟨fun i=>?_,.nil,trivial,rfl⟩
  simp [KK.new]
theorem Log.same {k k':KK} {log:List Int} (L:Log k log) (he:k'.events = k.events) (hp:k'.p = k.p):Log k' log:=by
  obtain ⟨a,b,c,d⟩:=L
  exact ⟨fun i=>by rw [he]; exact a i,by rw [he]; exact b,by rw [he,hp]; exact c,by rw [he,hp]; exact d⟩
theorem jj.mayFrom {k:KK} (E:jj k):∀ (n:Nat) (es:List bj),k.events.drop n = es→∀ (last:Int) (seen:List Int) (ends:List (Int × Int)),
    (∀ i e,i < n→k.events[i]? = some e→e.fBegin ≤ last∨n = 0)→(n = 0→last = 0)→(0 < n→∃ e,k.events[n - 1]? = some e∧last = e.fBegin) →
    (∀ x ∈ seen,∃ (i:Nat) (e:bj),i < n∧k.events[i]? = some e∧x = e.fEffect) →
    (∀ c v,Hist.endOf ends c = some v→∃ (i:Nat) (e:bj),i < n∧k.events[i]? = some e∧e.fCore = c∧v = e.fEnd)→Hist.mayFrom k.p.s es last seen ends = true
  | _,[],_,_,_,_,_,_,_,_,_=>rfl
  | n,e::es,hd,last,seen,ends,h1,h2,h3,h4,h5=>by
    have hn:k.events[n]? = some e:=by
      have:=congrArg (fun l=>l[0]?) hd
      simpa using this
    have o:=E.one n e hn
    have hlast:last < e.fBegin:=by
      rcases Nat.eq_zero_or_pos n with h0 | h0
      · rw [h2 h0]; have:=o.b0; omega
      · obtain ⟨d,hd1,rfl⟩:=h3 h0
        exact E.up (n - 1) n d e (by omega) hd1 hn
    have hone:eD e k.p.s last = true:=by
      unfold eD
      have c1:(((((decide (e.fCore < 0)) || (decide (e.fCore ≥ k.p.s.fCores))) || (decide (e.fEnv < 0))) || (decide (e.fEnv ≥ k.p.s.fEnvs))) || (decide (e.fBegin ≤ last))) = false:=by
        have:=o.c0; have:=o.c1; have:=o.v0; have:=o.v1
        simp; omega
      rw [c1]
      simp only [cond_false]
      rcases o.st with s | s
      · simp [s.1,s.2]
      · have hb:=o.b0
        have:(e.fEffect == 0) = false:=by simp; omega
        rw [this]
        simp only [cond_false]
        simp; omega
    rw [Hist.mayFrom]
    rw [if_neg]
    · rw [if_neg]
      · refine jj.mayFrom E (n + 1) es ?_ e.fBegin _ _ (fun i d hi hd1=>?_) (fun h=>by omega) (fun _=>⟨e,by simpa using hn,rfl⟩) (fun x hx=>?_) (fun c v hv=>?_)
        · rw [← List.drop_drop,hd]; rfl
        · left
          rcases Nat.lt_or_ge i n with h | h
          · exact Int.le_of_lt (E.up i n d e h hd1 hn)
          · have:i = n:=by omega
            subst this; rw [hn] at hd1; cases hd1; exact Int.le_refl _
        · rcases List.mem_cons.1 hx with rfl | hx
          · exact ⟨n,e,by omega,hn,rfl⟩
          · obtain ⟨i,d,a1,a2,a3⟩:=h4 x hx
            exact ⟨i,d,by omega,a2,a3⟩
        · unfold Hist.endOf at hv
          rw [List.find?_cons] at hv
          by_cases hc:(e.fCore == c) = true
          · rw [hc] at hv
            simp at hv
            exact ⟨n,e,by omega,hn,by simpa using hc,hv.symm⟩
          · have hc':(e.fCore == c) = false:=by simpa using hc
            rw [hc'] at hv
            obtain ⟨i,d,a1,a2,a3⟩:=h5 c v hv
            exact ⟨i,d,by omega,a2,a3⟩
      · unfold Hist.stops
        split
        · rename_i v hv
          obtain ⟨i,d,a1,a2,a3,rfl⟩:=h5 _ _ hv
          have:=E.co i n d e a1 a2 hn a3
          simp; omega
        · simp
    · rintro (h | ⟨h,hm⟩)
      · rw [hone] at h; cases h
      · obtain ⟨i,d,a1,a2,a3⟩:=h4 _ hm
        have:=E.ef n i e d hn a2 h a3
        omega
theorem jj.may {k:KK} (E:jj k):Hist.may k.events k.p.s = true :=
  E.mayFrom 0 k.events rfl 0 [] [] (fun i e h=>by omega) (fun _=>rfl) (fun h=>by omega) (fun x hx=>by cases hx) (fun c v hv=>by cases hv)
theorem right_of {k:KK} {log:List Int} (E:jj k) (L:Log k log):Judge.right k.events k.p.s = true∧Judge.linear k.events k.p.s = (-1,true)∧Judge.accesses k.events k.p.s = (-1,true):=by
  have h:∀ a b,Judge.run k.events k.p.s a b = (-1,true):=fun a b=>by
    unfold Judge.run
    rw [if_pos E.may,← L.order E]
    exact Judge.run_good a b L.good
  refine ⟨?_,h true false,h false true⟩
  unfold Judge.right Judge.linear Judge.accesses
  rw [h,h]; rfl
end Go.Proofs.YtniiiakkdoiaiaaGreatDoor
namespace Go.Proofs.YtniiiakkdoiaiaaGreatDoor
open Go Mb
theorem ev_set {es:List bj} {n:Nat} {e0 e':bj} (h:es[n]? = some e0) (j:Int):Judge.ev (es.set n e') j = if j.toNat = n then e' else Judge.ev es j:=by
  have hlt:=(List.getElem?_eq_some_iff.1 h).1
  simp only [Judge.ev,List.getD_eq_getElem?_getD,List.getElem?_set]
  by_cases e:n = j.toNat
  · rw [if_pos e,if_pos e.symm,if_pos hlt]; rfl
  · rw [if_neg e,if_neg (fun x=>e x.symm)]
theorem Log.effect {k k':KK} {log:List Int} (L:Log k log) {n:Nat} {e0:bj} {a:eJ} {l:jI} (h0:k.events[n]? = some e0) (hz:e0.fEffect = 0) (hlate:∀ (i:Nat) e,k.events[i]? = some e→e.fBegin < k.now∧e.fEffect < k.now) (hn:0 < k.now)
    (he:k'.events = k.events.set n (KK.evend e0 k.now a l)) (hs:k'.p.s = k.p.s) (hg:Judge.good k'.events k.p.s k.p n) (hj:Judge.jstep k'.events k.p.s k.p n = k'.p):Log k' (log++[(n:Int)]):=by
  have hlt:=(List.getElem?_eq_some_iff.1 h0).1
  have hev:=fun j=>ev_set (e':=KK.evend e0 k.now a l) h0 j
  have alike:∀ i ∈ log,Judge.Alike k.events k'.events i:=by
    intro i hi
    obtain ⟨m,e,g1,rfl,g2⟩:=(L.mem i).1 hi
    have hmn:m ≠ n:=by rintro rfl; rw [h0] at g1; cases g1; omega
    have hl:=hlate m e g1
    rw [he]
    refine ⟨by rw [hev,if_neg (by simpa using hmn)],?_,fun j _=>?_⟩
    · rw [ev_get g1]
      unfold Hist.over Hist.places
      refine placesFrom_set _ _ _ e0 _ _ h0 ?_
      show (decide (e0.fBegin ≤ e.fEffect) && (k.now == 0 || decide (k.now > e.fEffect))) = (decide (e0.fBegin ≤ e.fEffect) && (e0.fEffect == 0 || decide (e0.fEffect > e.fEffect)))
      rw [hz,decide_eq_true (show k.now > e.fEffect from hl.2)]
      simp
    · rw [hev]
      split
      · rename_i hjn
        have:Judge.ev k.events j = e0:=by simp [Judge.ev,hjn,h0]
        rw [this]; exact ⟨rfl,rfl⟩
      · exact ⟨rfl,rfl⟩
  obtain ⟨g1,g2⟩:=Judge.Good_alike alike L.good
  have heff:∀ i,Hist.eff k'.events i = if i.toNat = n then k.now else Hist.eff k.events i:=by
    intro i
    have:=hev i
    show (Judge.ev k'.events i).fEffect = _
    rw [he,this]
    split <;> rfl
  have hin:∀ i ∈ log,i.toNat ≠ n∧Hist.eff k.events i < k.now:=by
    intro i hi
    obtain ⟨m,e,g1,rfl,g2⟩:=(L.mem i).1 hi
    refine ⟨fun h=>?_,by rw [Hist.eff_nat g1]; exact (hlate m e g1).2⟩
    rw [Int.toNat_natCast] at h
    subst h; rw [h0] at g1; cases g1; omega
  refine ⟨fun i=>?_,?_,?_,?_⟩
  · rw [List.mem_append,List.mem_singleton,L.mem,he]
    constructor
    · rintro (⟨m,e,a1,rfl,a2⟩ | rfl)
      · have hmn:m ≠ n:=by rintro rfl; rw [h0] at a1; cases a1; omega
        exact ⟨m,e,by rw [List.getElem?_set,if_neg (fun h=>hmn h.symm)]; exact a1,rfl,a2⟩
      · exact ⟨n,KK.evend e0 k.now a l,by rw [List.getElem?_set,if_pos rfl,if_pos hlt],rfl,hn⟩
    · rintro ⟨m,e,a1,rfl,a2⟩
      rw [List.getElem?_set] at a1
      by_cases h:n = m
      · exact .inr (by rw [h])
      · rw [if_neg h] at a1; exact .inl ⟨m,e,a1,rfl,a2⟩
  · refine List.pairwise_append.2 ⟨?_,List.pairwise_singleton _ _,fun x hx y hy=>?_⟩
    · refine L.up.imp_of_mem fun {x y} hx hy hxy=>?_
      rw [heff,heff,if_neg (hin x hx).1,if_neg (hin y hy).1]; exact hxy
    · rw [List.mem_singleton.1 hy,heff,heff,if_neg (hin x hx).1,if_pos (by simp)]
      exact (hin x hx).2
  · rw [hs]
    refine Judge.Good_app g1 ?_
    rw [g2,L.run]; exact hg
  · rw [hs,Judge.jrun_app,g2,L.run]; exact hj
theorem Log.begin {k:KK} {log:List Int} (L:Log k log) (E:jj k) {e0:bj} (hb:k.now < e0.fBegin) (hz:e0.fEffect = 0) {k':KK} (he:k'.events = k.events++[e0]) (hp:k'.p = k.p):Log k' log:=by
  have alike:∀ i ∈ log,Judge.Alike k.events k'.events i:=by
    intro i hi
    obtain ⟨m,e,g1,rfl,g2⟩:=(L.mem i).1 hi
    have hm:=(List.getElem?_eq_some_iff.1 g1).1
    have hev:∀ j:Int,0 ≤ j→j < k.events.length→Judge.ev (k.events++[e0]) j = Judge.ev k.events j:=by
      intro j h0 h1
      simp only [Judge.ev,List.getD_eq_getElem?_getD]
      rw [List.getElem?_append_left (by omega)]
    rw [he]
    refine ⟨hev _ (by omega) (by omega),?_,fun j hj=>?_⟩
    · rw [ev_get g1]
      unfold Hist.over Hist.places
      rw [Hist.placesFrom_app,if_neg,List.append_nil]
      have o:=E.one m e g1
      have:e.fEffect ≤ k.now:=by
        rcases o.st with s | s
        · have:=o.b0; have:=o.b1; omega
        · exact s.2.2
      simp; omega
    · have:=Hist.places_in hj
      rw [hev j this.1 this.2]; exact ⟨rfl,rfl⟩
  obtain ⟨g1,g2⟩:=Judge.Good_alike alike L.good
  have heff:∀ i ∈ log,Hist.eff k'.events i = Hist.eff k.events i:=fun i hi=>by
    show (Judge.ev k'.events i).fEffect = (Judge.ev k.events i).fEffect
    rw [(alike i hi).e]
  refine ⟨fun i=>?_,L.up.imp_of_mem fun {x y} hx hy hxy=>by rw [heff x hx,heff y hy]; exact hxy,by rw [hp]; exact g1,by rw [hp,g2]; exact L.run⟩
  rw [L.mem,he]
  constructor
  · rintro ⟨m,e,a1,rfl,a2⟩
    exact ⟨m,e,by rw [List.getElem?_append_left (List.getElem?_eq_some_iff.1 a1).1]; exact a1,rfl,a2⟩
  · rintro ⟨m,e,a1,rfl,a2⟩
    rcases Nat.lt_or_ge m k.events.length with h | h
    · rw [List.getElem?_append_left h] at a1; exact ⟨m,e,a1,rfl,a2⟩
    · rw [List.getElem?_append_right h] at a1
      by_cases e1:m - k.events.length = 0
      · rw [e1] at a1
        simp at a1
        rw [← a1] at a2; omega
      · rw [List.getElem?_eq_none (by simp; omega)] at a1; cases a1
structure All (k:KK):Prop extends IE k where
  lg:∃ log,Log k log
theorem all_new {s:fK} (h:PK.sized s = true):All (KK.new s):=⟨ie_new h,[],log_new s⟩
theorem All.begin {k:KK} (A:All k) (hn:k.now < 2 ^ 40) (core env:Int) {c:df} (cw:Cw c):All (KK.begin_ k core env c).2:=by
  refine ⟨A.toIE.begin hn core env cw,?_⟩
  obtain ⟨log,L⟩:=A.lg
  refine ⟨log,?_⟩
  have hw:=wrapN A.inv.ok.n0 hn
  unfold KK.begin_
  split
  · exact L
  · rw [hw]
    exact L.begin A.ev (e0:=KK.ev0 core env c (k.now + 1)) (by show k.now < k.now + 1; omega) rfl rfl rfl
theorem All.post {k:KK} (A:All k) (hn:k.now < 2 ^ 40) (c:Int):All (KK.post k c).2:=by
  have he:(KK.post k c).2.events = k.events∧(KK.post k c).2.p = k.p:=by
    unfold KK.post
    split
    · exact ⟨rfl,rfl⟩
    · split <;> exact ⟨rfl,rfl⟩
  obtain ⟨log,L⟩:=A.lg
  exact ⟨A.toIE.post hn c,log,L.same he.1 he.2⟩
theorem All.tick {k:KK} (A:All k) (hn:k.now < 2 ^ 40):All (KK.tick k):=by
  obtain ⟨log,L⟩:=A.lg
  exact ⟨⟨A.inv.tick hn,tick_ev A.inv.ok A.ev hn⟩,log,L.same rfl rfl⟩
theorem work_log {k:KK} (A:All k) (hlate:∀ (i:Nat) e,k.events[i]? = some e→e.fBegin < k.now∧e.fEffect < k.now) (hn0:0 < k.now) {c:Nat} {x:KC} (hx:KK.call k c = some x) (hi:KK.is k c = true):∃ log,Log (KK.work k c x) log:=by
  have hc:c < k.calls.length:=by obtain ⟨n,e,h⟩:=mD hi; omega
  have hcx:=vz hx
  obtain ⟨log,L⟩:=A.lg
  obtain ⟨n,hn,e0,g1,g2,g3,g4,g5⟩:=A.ev.call c x hcx
  have setev:∀ (m:KK) (a:eJ) (l:jI),m.events = k.events→m.now = k.now→(KK.ends m c x a l).events = k.events.set n (KK.evend e0 k.now a l):=by
    intro m a l h1 h2
    unfold KK.ends
    rw [h1,h2,hn]
    simp only [Int.toNat_natCast,List.getD_eq_getElem?_getD,g1,Option.getD_some]
  have hev:∀ a l,Judge.ev (k.events.set n (KK.evend e0 k.now a l)) n = KK.evend e0 k.now a l:=fun a l=>by rw [ev_set g1,if_pos (by simp)]
  have juser:∀ a l,fq (KK.evend e0 k.now a l) = bJ (az x.fc).1:=fun a l=>by
    unfold fq
    show bJ (az e0.fCall).1 = _
    rw [g4]
  unfold KK.work
  by_cases hu:bJ (az x.fc).1 = true
  · rw [if_pos hu]
    obtain ⟨h1,h2,h3,_,_⟩:=access_keep k c x
    have he:=setev (KK.access k c x).2 (KK.access k c x).1.1 (KK.access k c x).1.2 h1 h2
    refine ⟨log++[(n:Int)],?_⟩
    have ag:=access_good A.inv hc hcx hu (es:=k.events.set n (KK.evend e0 k.now (KK.access k c x).1.1 (KK.access k c x).1.2)) (e:=KK.evend e0 k.now (KK.access k c x).1.1 (KK.access k c x).1.2) g4 g3 rfl rfl ?_
    · refine L.effect g1 g5 hlate hn0 he h3 ?_ ?_
      · rw [he]
        unfold Judge.good
        rw [hev,juser,hu]
        exact ⟨fun _=>ag.1,fun h=>(by cases h)⟩
      · rw [he]
        unfold Judge.jstep
        rw [hev,juser,if_pos hu]
        exact ag.2
    · rintro d y ⟨hy,hty⟩
      obtain ⟨m,hm,ey,f1,f2,f3,f4,f5⟩:=A.ev.call d y hy
      have hmn:m ≠ n:=by
        rintro rfl
        rw [g1] at f1
        cases f1
        have:d = c:=by omega
        subst this
        rw [hcx] at hy
        cases hy
        have T:=A.inv.teller ⟨hcx,hty⟩
        have w:=tE A.inv.en.1 A.inv.en.2 T.k
        have ht:=T.t
        rw [vy w.kind] at hu
        unfold bJ at hu
        unfold Tk at ht
        simp at hu
        omega
      have hge:(k.events.set n (KK.evend e0 k.now (KK.access k c x).1.1 (KK.access k c x).1.2))[m]? = some ey:=by rw [List.getElem?_set,if_neg (fun h=>hmn h.symm)]; exact f1
      rw [hm]
      refine ⟨?_,?_,?_⟩
      · unfold Hist.over
        rw [Hist.mem_places]
        refine ⟨m,ey,hge,rfl,?_⟩
        have:=(hlate m ey f1).1
        show (decide (ey.fBegin ≤ k.now) && (ey.fEffect == 0 || decide (ey.fEffect > k.now))) = true
        rw [f5]; simp; omega
      · rw [ev_get hge]; exact f4
      · rw [ev_get hge]; exact f3
  · rw [if_neg hu]
    have hu':bJ (az x.fc).1 = false:=by simpa using hu
    split
    · exact ⟨log,L.same rfl rfl⟩
    · split
      · exact ⟨log,L⟩
      · split
        · rename_i hdone
          have he:=setev { k with p:=(PK.do_ k.p x.fenv x.fc).2 } (PK.do_ k.p x.fenv x.fc).1.1 ii rfl rfl
          refine ⟨log++[(n:Int)],L.effect g1 g5 hlate hn0 he (do_s _ _ _) ?_ ?_⟩
          · rw [he]
            unfold Judge.good
            rw [hev,juser,hu']
            refine ⟨fun h=>(by cases h),fun _=>?_⟩
            show (PK.do_ k.p e0.fEnv e0.fCall).1.2 = true∧(PK.do_ k.p e0.fEnv e0.fCall).1.1 = (PK.do_ k.p x.fenv x.fc).1.1
            rw [g3,g4]
            exact ⟨hdone,rfl⟩
          · rw [he]
            unfold Judge.jstep
            rw [hev,juser,if_neg hu]
            show (PK.do_ k.p e0.fEnv e0.fCall).2 = (PK.do_ k.p x.fenv x.fc).2
            rw [g3,g4]
        · rename_i hdone
          rw [do_wait (by simpa using hdone)]
          exact ⟨log,L⟩
theorem All.step {k:KK} (A:All k) (hn:k.now < 2 ^ 40) (c:Int):All (KK.step k c).2:=by
  refine ⟨A.toIE.step hn c,?_⟩
  unfold KK.step
  split
  · exact A.lg
  · rename_i hb
    obtain ⟨hi,x,hx⟩:=busy_is (by simpa using hb)
    rw [hx]
    obtain ⟨n,rfl,_⟩:=mD hi
    have h0:=A.inv.ok.n0
    exact work_log (A.tick hn) (tick_late A.inv.ok A.ev hn) (by rw [tick_now A.inv.ok hn]; omega) hx hi
theorem All.right {k:KK} (A:All k):Judge.right k.events k.p.s = true∧Judge.linear k.events k.p.s = (-1,true)∧Judge.accesses k.events k.p.s = (-1,true):=by
  obtain ⟨log,L⟩:=A.lg
  exact right_of A.ev L
end Go.Proofs.YtniiiakkdoiaiaaGreatDoor
namespace Go.Proofs.YtniiiakkdoiaiaaGreatDoor
open Go Mb
set_option linter.unusedVariables false
def errors_as_l2 (a1:Value) (a2:aH) (a3:Value) (K:Bool→Hp→Prop) (v48:Sl) (Rec25:Int→Hp→Prop) (s24:Int):Hp→Prop:=br (decide (s24 < (v48.len:Int))) ( ix v48 s24 fun q52=>ld (q52.1,q52.2 + Int.toNat s24 * 1) cV fun x53=>hpv Tryz.prog (do eqGuard .eql 171 (.tmp 54) (.const Value.nilIface) x53 Value.nilIface; binOp .eql 171 x53 Value.nilIface:Sem Value) aB fun (v55:Bool)=>br v55 ( Rec25 (IntKind.i64.wrap (s24 + 1))) ( cl Tryz.prog ul [x53,a1,(.agg (aH.C a2).toArray),a3] aB fun r60=>br r60 ( K true) ( Rec25 (IntKind.i64.wrap (s24 + 1))))) ( K false)
def xl (a1:Value) (a2:aH) (a3:Value) (K:Bool→Hp→Prop) (Rec2:Value→Hp→Prop) (s1:Value) (s11:Unit):Hp→Prop:=hpv Tryz.prog (Instr.typeAssert s1 gl je true) gg fun (v37:Value × Bool)=>br v37.2 ( cln Tryz.prog (callMethod v37.1 "Unwrap" #[]) encV fun (v41:Value)=>hpv Tryz.prog (do eqGuard .eql 171 (.tmp 42) (.const Value.nilIface) v41 Value.nilIface; binOp .eql 171 v41 Value.nilIface:Sem Value) aB fun (v43:Bool)=>br v43 ( K false) ( Rec2 v41)) ( hpv Tryz.prog (Instr.typeAssert s1 gl iu true) fT fun (v44:Value × Bool)=>br v44.2 ( cln Tryz.prog (callMethod v44.1 "Unwrap" #[]) R_Serror fun (v48:Sl)=>Lp (errors_as_l2 a1 a2 a3 K v48) 0) ( K false))
def xk (a1:Value) (a2:aH) (a3:Value) (K:Bool→Hp→Prop) (Rec2:Value→Hp→Prop) (s1:Value):Hp→Prop:=cln Tryz.prog (callFunc fZ #[s1]) encV fun (v17:Value)=>cln Tryz.prog (callMethod v17 "AssignableTo" #[a3]) aB fun (v19:Bool)=>br v19 ( cln Tryz.prog (callFunc ff #[(.agg (aH.C a2).toArray)]) fA fun (v21:aH)=>cln Tryz.prog (callFunc cT #[s1]) fA fun (v23:aH)=>cln Tryz.prog (callFunc fw #[(.agg (aH.C v21).toArray),(.agg (aH.C v23).toArray)]) R_ fun (v24:Unit)=>K true) ( hpv Tryz.prog (Instr.typeAssert s1 gl qu true) ns fun (v27:Value × Bool)=>br v27.2 ( cln Tryz.prog (callMethod v27.1 "As" #[a1]) aB fun (v34:Bool)=>br v34 ( K true) ( xl a1 a2 a3 K Rec2 s1 ())) ( xl a1 a2 a3 K Rec2 s1 ()))
def sh_errors_as (a0:Value) (a1:Value) (a2:aH) (a3:Value) (K:Bool→Hp→Prop):Hp→Prop:=Lp (xk a1 a2 a3 K) a0
theorem sim_errors_as (a0:Value) (a1:Value) (a2:aH) (a3:Value) {K:Bool→Hp→Prop} {h:Hp} (H:sh_errors_as a0 a1 a2 a3 K h):Ct Tryz.prog ul #[a0,a1,(.agg (aH.C a2).toArray),a3] h fun v h'=>∃ r,v = aB r∧K r h':=aw [a0,a1,(.agg (aH.C a2).toArray),a3] Tryz.func212 c c c fun _=>M<|aa<|cJ (l:=aH.C a2) c c c fun b6=>O c<|ax<|bD (step:=xk a1 a2 a3 K) (fun s1=>[(0,s1),(1,a1),(3,a3),(6,(.pointer (some ⟨b6,0,none⟩)))]) (fun s1=>[bx b6 269 (aH.C a2)]) H (.cons c<|.cons c<|.cons c<|.cons c<|.nil _) (.cons_cons _ .slnil) fun Rec2 s1 _ H3=>ax<|ak<|M<|J c<|aa<|fY H3 (rH (vs:=[s1]) c) c fun v17 _ H4=>J c<|aa<|fY H4 (fX (vs:=[a3]) c c) c fun v19 _ H5=>ac<|av c H5 (fun k6 H7=>M<|bh (bB (k:=0) ag_269 c c c c) c<|aa<|fY H7 (rH (vs:=[(.agg (aH.C a2).toArray)]) c) c fun v21 _ H8=>J c<|aa<|fY H8 (rH (vs:=[s1]) c) c fun v23 _ H9=>aa<|fY H9 (rH (vs:=[(.agg (aH.C v21).toArray),(.agg (aH.C v23).toArray)]) c) c fun v24 _ H10=>ac<|M<|O c<|ai<|Y ⟨true,c,H10⟩) fun k6 H7=>an<|eo (xl a1 a2 a3 K Rec2 s1) (fun s11=>[(0,s1),(1,a1),(3,a3),(6,(.pointer (some ⟨b6,0,none⟩)))]) (fun s11=>[bx b6 269 (aH.C a2)]) (M<|J c<|aa<|aR H7 (fV c) c fun v27 _ H39=>J c<|p (aj c c)<|p (aj c c)<|p (ar c)<|O c<|M<|J c<|J c<|V c c (ay _) (fun g40=>wv<|ah c)<|V c c (ay _) (fun g41=>wv<|ah c)<|bT H39 (fun k43 H44=>F (D k43)<|fY H44 (fX (vs:=[a1]) (aD c k43)<|aS (aD c k43) bS) c fun v34 _ H45=>p (aT c k43 c)<|ac<|av c H45 (fun k46 H47=>M<|O c<|ai<|Y ⟨true,c,H47⟩) fun k46 H47=>an<|cE () H47 (.cons c<|.cons c<|.cons c<|.cons c<|.nil _)<|.cons_cons _ .slnil) fun k43 H44=>W (aQ k43)<|p (aq c k43 c)<|ac<|ev_no c c<|an<|cE () H44 (.cons c<|.cons c<|.cons c<|.cons c<|.nil _)<|.cons_cons _ .slnil) fun s11 _ H12=>M<|J c<|ac<|ax<|M<|aa<|aR H12 (fV c) c fun v37 _ H13=>p (aj c c)<|p (aj c c)<|ac<|av c H13 (fun k14 H15=>M<|O c<|M<|J c<|aa<|fY H15 (fX (vs:=[]) c c) c fun v41 _ H16=>O c<|M<|J c<|aa<|aR H16 (gi c c) c fun v43 _ H17=>ac<|av c H17 (fun k18 H19=>M<|O c<|ai<|Y ⟨false,c,H19⟩) fun k18 H19=>an<|cK v41 H19 (.cons c<|.cons c<|.cons c<|.cons c<|.nil _)<|.cons_cons _ .slnil) fun k14 H15=>M<|aa<|aR H15 (fV c) c fun v44 _ H20=>p (aj c c)<|p (aj c c)<|ac<|av c H20 (fun k21 H22=>M<|O c<|ak<|M<|J c<|aa<|fY H22 (fX (vs:=[]) c c) c fun v48 _ H23=>p (dz c Tryz.underlying253 c)<|J c<|ac<|ax<|bD (step:=errors_as_l2 a1 a2 a3 K v48) (fun s24=>[(1,a1),(3,a3),(6,(.pointer (some ⟨b6,0,none⟩))),(48,(sv v48)),(49,(.int .i64 (v48.len:Int))),(50,(.int .i64 s24))]) (fun s24=>[bx b6 269 (aH.C a2)]) H23 (.cons c<|.cons c<|.cons c<|.cons c<|.cons c<|.cons c<|.nil _) (.cons_cons _ .slnil) fun Rec25 s24 _ H26=>M<|p (ct c c)<|ac<|ak<|av c H26 (fun k27 H28=>an<|ak<|ax<|M<|cj H28 fun q52 e29 h30 H31=>p (bo slc_253 (aL c<|ba e29) c h30)<|aa<|aV H31 sc_171 c (fun _=>c) c fun x53 H32=>O c<|ak<|M<|J c<|aa<|aR H32 (gi c c) c fun v55 _ H33=>ac<|av c H33 (fun k34 H35=>bi<|ao<|p (bp c c)<|J c<|ac<|cK (IntKind.i64.wrap (s24 + 1)) H35 (.cons c<|.cons c<|.cons c<|.cons c<|.cons c<|.cons c<|.nil _)<|.cons_cons _ .slnil) fun k34 H35=>an<|M<|J c<|J c<|bh (bB (k:=0) ag_269 c c c c) c<|J c<|aa<|Z H35 en_212 fun r60 _ H36=>ac<|av c H36 (fun k37 H38=>M<|O c<|ai<|Y ⟨true,c,H38⟩) fun k37 H38=>an<|ao<|p (bp c c)<|J c<|ac<|cK (IntKind.i64.wrap (s24 + 1)) H38 (.cons c<|.cons c<|.cons c<|.cons c<|.cons c<|.cons c<|.nil _)<|.cons_cons _ .slnil) fun k27 H28=>bi<|M<|O c<|ai<|Y ⟨false,c,H28⟩) fun k21 H22=>M<|O c<|M<|O c<|ai<|Y ⟨false,c,H22⟩
def sc (a0:Value) (a1:Value) (K:Bool→Hp→Prop) (v14:aH) (v26:Value) (s11:Unit):Hp→Prop:=cl Tryz.prog ul [a0,a1,(.agg (aH.C v14).toArray),v26] aB fun r41=>K r41
def xm (a0:Value) (a1:Value) (K:Bool→Hp→Prop) (v14:aH) (v16:Value) (s8:Unit):Hp→Prop:=cln Tryz.prog (callMethod v16 "Elem" #[]) encV fun (v26:Value)=>cln Tryz.prog (callMethod v26 "Kind" #[]) R_abi_Kind fun (v28:Int)=>br (v28 != 20) ( ld (0,0) cV fun x32=>cln Tryz.prog (callMethod v26 "Implements" #[x32]) aB fun (v33:Bool)=>br (!v33) ( hpv Tryz.prog (Instr.makeInterface uQ (.string str_6ae768b9)) encV fun (v36:Value)=>nope) ( sc a0 a1 K v14 v26 ())) ( sc a0 a1 K v14 v26 ())
def xn (a0:Value) (a1:Value) (K:Bool→Hp→Prop) (s4:Unit):Hp→Prop:=cln Tryz.prog (callFunc cT #[a1]) fA fun (v14:aH)=>cln Tryz.prog (callFunc ir #[(.agg (aH.C v14).toArray)]) encV fun (v16:Value)=>cln Tryz.prog (callMethod v16 "Kind" #[]) R_abi_Kind fun (v18:Int)=>br (!(v18 != 22)) ( cln Tryz.prog (callFunc eQ #[(.agg (aH.C v14).toArray)]) aB fun (v22:Bool)=>br v22 ( hpv Tryz.prog (Instr.makeInterface uQ (.string str_ae9b7a08)) encV fun (v24:Value)=>nope) ( xm a0 a1 K v14 v16 ())) ( hpv Tryz.prog (Instr.makeInterface uQ (.string str_ae9b7a08)) encV fun (v24:Value)=>nope)
def wK (a0:Value) (a1:Value) (K:Bool→Hp→Prop):Hp→Prop:=hpv Tryz.prog (do eqGuard .eql 171 (.tmp 8) (.const Value.nilIface) a0 Value.nilIface; binOp .eql 171 a0 Value.nilIface:Sem Value) aB fun (v9:Bool)=>br v9 ( K false) ( hpv Tryz.prog (do eqGuard .eql 20 (.tmp 10) (.const Value.nilIface) a1 Value.nilIface; binOp .eql 20 a1 Value.nilIface:Sem Value) aB fun (v11:Bool)=>br v11 ( hpv Tryz.prog (Instr.makeInterface uQ (.string str_53947bae)) encV fun (v12:Value)=>nope) ( xn a0 a1 K ()))
theorem sim_errors_As (a0:Value) (a1:Value) {K:Bool→Hp→Prop} {h:Hp} (H:wK a0 a1 K h):Ct Tryz.prog um #[a0,a1] h fun v h'=>∃ r,v = aB r∧K r h':=aw [a0,a1] Tryz.func207 c c c fun _=>M<|O c<|ak<|M<|J c<|aa<|aR H (gi c c) c fun v9 _ H1=>ac<|av c H1 (fun k2 H3=>M<|O c<|ai<|Y ⟨false,c,H3⟩) fun k2 H3=>an<|eo (xn a0 a1 K) (fun s4=>[(0,a0),(1,a1)]) (fun s4=>[]) (M<|J c<|aa<|aR H3 (gi c c) c fun v11 _ H34=>ac<|av c H34 (fun k35 H36=>ao<|aa<|aR H36 (gu c) c fun v12 _ H37=>evlNo H37) fun k35 H36=>an<|cE () H36 (.cons c<|.cons c<|.nil _) .slnil) fun s4 _ H5=>M<|J c<|aa<|fY H5 (rH (vs:=[a1]) c) c fun v14 _ H6=>aa<|aK (l:=aH.C (⟨none,none,0⟩:aH)) zero_269 c c fun b5=>aa<|aO (k:=0) (vs:=aH.C v14) inf_269 c c c c c c c<|ac<|M<|bh (bB (k:=0) ag_269 c c c c) c<|aa<|fY H6 (rH (vs:=[(.agg (aH.C v14).toArray)]) c) c fun v16 _ H7=>O c<|eo (xm a0 a1 K v14 v16) (fun s8=>[(0,a0),(1,a1),(5,(.pointer (some ⟨b5,0,none⟩))),(6,v16)]) (fun s8=>[bx b5 269 (aH.C v14)]) (M<|J c<|aa<|fY H7 (fX (vs:=[]) c c) c fun v18 _ H24=>p (pF c c)<|J c<|V c c (aM _) (fun g25=>cv<|bB (k:=0) ag_269 c c c c)<|bT H24 (fun k27 H28=>F (D<|cf k27)<|fY H28 (rH (vs:=[(.agg (aH.C v14).toArray)])<|aS (aD c k27) bS) c fun v22 _ H29=>p (aq c (cf k27) c)<|ac<|av c H29 (fun k30 H31=>ao<|aa<|aR H31 (gu c) c fun v24 _ H32=>evlNo H32) fun k30 H31=>an<|cE () H31 (.cons c<|.cons c<|.cons c<|.cons c<|.nil _)<|.cons_cons _ .slnil) fun k27 H28=>W (cc<|bH k27)<|p (aT c (bH k27) c)<|ac<|mu c c<|ao<|aa<|aR H28 (gu c) c fun v24 _ H33=>evlNo H33) fun s8 _ H9=>M<|J c<|aa<|fY H9 (fX (vs:=[]) c c) c fun v26 _ H10=>O c<|eo (sc a0 a1 K v14 v26) (fun s11=>[(0,a0),(1,a1),(5,(.pointer (some ⟨b5,0,none⟩))),(7,v26)]) (fun s11=>[bx b5 269 (aH.C v14)]) (M<|J c<|aa<|fY H10 (fX (vs:=[]) c c) c fun v28 _ H14=>p (pF c c)<|J c<|V c c (ay _) (fun g15=>wv<|ah c)<|bT H14 (fun k17 H18=>F (D k17)<|aV H18 sc_223 c (fun _=>c) c fun x32 H19=>F (D k17)<|fY H19 (fX (vs:=[x32]) (aD c k17) c) c fun v33 _ H20=>F (D k17)<|R (cn c)<|p (aT c k17 c)<|ac<|av c H20 (fun k21 H22=>ao<|aa<|aR H22 (gu c) c fun v36 _ H23=>evlNo H23) fun k21 H22=>an<|cE () H22 (.cons c<|.cons c<|.cons c<|.cons c<|.nil _)<|.cons_cons _ .slnil) fun k17 H18=>W (aQ k17)<|W (aQ k17)<|W (aQ k17)<|p (aq c k17 c)<|ac<|ev_no c c<|an<|cE () H18 (.cons c<|.cons c<|.cons c<|.cons c<|.nil _)<|.cons_cons _ .slnil) fun s11 _ H12=>M<|J c<|J c<|bh (bB (k:=0) ag_269 c c c c) c<|J c<|aa<|Z H12 en_212 fun r41 _ H13=>O c<|ai<|Y ⟨r41,c,H13⟩
def errors_is_l2 (a1:Value) (a2:Bool) (K:Bool→Hp→Prop) (v43:Sl) (Rec26:Int→Hp→Prop) (s25:Int):Hp→Prop:=br (decide (s25 < (v43.len:Int))) ( ix v43 s25 fun q47=>ld (q47.1,q47.2 + Int.toNat s25 * 1) cV fun x48=>cl Tryz.prog nG [x48,a1,(.bool a2)] aB fun r52=>br r52 ( K true) ( Rec26 (IntKind.i64.wrap (s25 + 1)))) ( K false)
def rZ (a1:Value) (a2:Bool) (K:Bool→Hp→Prop) (Rec2:Value→Hp→Prop) (s1:Value) (s12:Unit):Hp→Prop:=hpv Tryz.prog (Instr.typeAssert s1 gl je true) gg fun (v32:Value × Bool)=>br v32.2 ( cln Tryz.prog (callMethod v32.1 "Unwrap" #[]) encV fun (v36:Value)=>hpv Tryz.prog (do eqGuard .eql 171 (.tmp 37) (.const Value.nilIface) v36 Value.nilIface; binOp .eql 171 v36 Value.nilIface:Sem Value) aB fun (v38:Bool)=>br v38 ( K false) ( Rec2 v36)) ( hpv Tryz.prog (Instr.typeAssert s1 gl iu true) fT fun (v39:Value × Bool)=>br v39.2 ( cln Tryz.prog (callMethod v39.1 "Unwrap" #[]) R_Serror fun (v43:Sl)=>Lp (errors_is_l2 a1 a2 K v43) 0) ( K false))
def errors_is_l3 (a1:Value) (a2:Bool) (K:Bool→Hp→Prop) (v43:Sl) (Rec60:Int→Hp→Prop) (s59:Int):Hp→Prop:=br (decide (s59 < (v43.len:Int))) ( ix v43 s59 fun q47=>ld (q47.1,q47.2 + Int.toNat s59 * 1) cV fun x48=>cl Tryz.prog nG [x48,a1,(.bool a2)] aB fun r52=>br r52 ( K true) ( Rec60 (IntKind.i64.wrap (s59 + 1)))) ( K false)
def xj (a1:Value) (a2:Bool) (K:Bool→Hp→Prop) (Rec2:Value→Hp→Prop) (s1:Value) (s46:Unit):Hp→Prop:=hpv Tryz.prog (Instr.typeAssert s1 gl je true) gg fun (v32:Value × Bool)=>br v32.2 ( cln Tryz.prog (callMethod v32.1 "Unwrap" #[]) encV fun (v36:Value)=>hpv Tryz.prog (do eqGuard .eql 171 (.tmp 37) (.const Value.nilIface) v36 Value.nilIface; binOp .eql 171 v36 Value.nilIface:Sem Value) aB fun (v38:Bool)=>br v38 ( K false) ( Rec2 v36)) ( hpv Tryz.prog (Instr.typeAssert s1 gl iu true) fT fun (v39:Value × Bool)=>br v39.2 ( cln Tryz.prog (callMethod v39.1 "Unwrap" #[]) R_Serror fun (v43:Sl)=>Lp (errors_is_l3 a1 a2 K v43) 0) ( K false))
def rY (a1:Value) (a2:Bool) (K:Bool→Hp→Prop) (Rec2:Value→Hp→Prop) (s1:Value):Hp→Prop:=br a2 ( hpv Tryz.prog (do eqGuard .eql 171 (.tmp 16) (.tmp 17) s1 a1; binOp .eql 171 s1 a1:Sem Value) aB fun (v18:Bool)=>br v18 ( K true) ( hpv Tryz.prog (Instr.typeAssert s1 gl mc true) jG fun (v22:Value × Bool)=>br v22.2 ( cln Tryz.prog (callMethod v22.1 "Is" #[a1]) aB fun (v29:Bool)=>br v29 ( K true) ( rZ a1 a2 K Rec2 s1 ())) ( rZ a1 a2 K Rec2 s1 ()))) ( hpv Tryz.prog (Instr.typeAssert s1 gl mc true) jG fun (v22:Value × Bool)=>br v22.2 ( cln Tryz.prog (callMethod v22.1 "Is" #[a1]) aB fun (v29:Bool)=>br v29 ( K true) ( xj a1 a2 K Rec2 s1 ())) ( xj a1 a2 K Rec2 s1 ()))
def wI (a0:Value) (a1:Value) (a2:Bool) (K:Bool→Hp→Prop):Hp→Prop:=Lp (rY a1 a2 K) a0
theorem sim_errors_is (a0:Value) (a1:Value) (a2:Bool) {K:Bool→Hp→Prop} {h:Hp} (H:wI a0 a1 a2 K h):Ct Tryz.prog nG #[a0,a1,(.bool a2)] h fun v h'=>∃ r,v = aB r∧K r h':=aw [a0,a1,(.bool a2)] Tryz.func174 c c c fun _=>M<|O c<|ax<|bD (step:=rY a1 a2 K) (fun s1=>[(0,s1),(1,a1),(2,(.bool a2))]) (fun s1=>[]) H (.cons c<|.cons c<|.cons c<|.nil _) .slnil fun Rec2 s1 _ H3=>ax<|ak<|M<|J c<|J c<|V c c (ay _) (fun g4=>wv<|ah c)<|V c c (ay _) (fun g5=>wv<|ah c)<|bT H3 (fun k7 H8=>F (D k7)<|aR H8 (gi (aD c k7)<|aD c k7) c fun v18 _ H9=>p (aT c k7 c)<|ac<|av c H9 (fun k10 H11=>M<|O c<|ai<|Y ⟨true,c,H11⟩) fun k10 H11=>an<|eo (rZ a1 a2 K Rec2 s1) (fun s12=>[(0,s1),(1,a1),(2,(.bool a2))]) (fun s12=>[]) (M<|J c<|aa<|aR H11 (fV c) c fun v22 _ H37=>J c<|p (aj c c)<|p (aj c c)<|p (ar c)<|O c<|M<|J c<|J c<|V c c (ay _) (fun g38=>wv<|ah c)<|V c c (ay _) (fun g39=>wv<|ah c)<|bT H37 (fun k41 H42=>F (D k41)<|fY H42 (fX (vs:=[a1]) (aD c k41)<|aS (aD c k41) bS) c fun v29 _ H43=>p (aT c k41 c)<|ac<|av c H43 (fun k44 H45=>M<|O c<|ai<|Y ⟨true,c,H45⟩) fun k44 H45=>an<|cE () H45 (.cons c<|.cons c<|.cons c<|.nil _) .slnil) fun k41 H42=>W (aQ k41)<|p (aq c k41 c)<|ac<|ev_no c c<|an<|cE () H42 (.cons c<|.cons c<|.cons c<|.nil _) .slnil) fun s12 _ H13=>M<|J c<|ac<|ax<|M<|aa<|aR H13 (fV c) c fun v32 _ H14=>p (aj c c)<|p (aj c c)<|ac<|av c H14 (fun k15 H16=>M<|O c<|M<|J c<|aa<|fY H16 (fX (vs:=[]) c c) c fun v36 _ H17=>O c<|M<|J c<|aa<|aR H17 (gi c c) c fun v38 _ H18=>ac<|av c H18 (fun k19 H20=>M<|O c<|ai<|Y ⟨false,c,H20⟩) fun k19 H20=>an<|cK v36 H20 (.cons c<|.cons c<|.cons c<|.nil _) .slnil) fun k15 H16=>M<|aa<|aR H16 (fV c) c fun v39 _ H21=>p (aj c c)<|p (aj c c)<|ac<|av c H21 (fun k22 H23=>M<|O c<|ak<|M<|J c<|aa<|fY H23 (fX (vs:=[]) c c) c fun v43 _ H24=>p (dz c Tryz.underlying253 c)<|J c<|ac<|ax<|bD (step:=errors_is_l2 a1 a2 K v43) (fun s25=>[(1,a1),(2,(.bool a2)),(43,(sv v43)),(44,(.int .i64 (v43.len:Int))),(45,(.int .i64 s25))]) (fun s25=>[]) H24 (.cons c<|.cons c<|.cons c<|.cons c<|.cons c<|.nil _) .slnil fun Rec26 s25 _ H27=>M<|p (ct c c)<|ac<|ak<|av c H27 (fun k28 H29=>an<|ak<|ax<|M<|cj H29 fun q47 e30 h31 H32=>p (bo slc_253 (aL c<|ba e30) c h31)<|aa<|aV H32 sc_171 c (fun _=>c) c fun x48 H33=>O c<|M<|J c<|J c<|J c<|aa<|Z H33 en_174 fun r52 _ H34=>ac<|av c H34 (fun k35 H36=>M<|O c<|ai<|Y ⟨true,c,H36⟩) fun k35 H36=>an<|ao<|p (bp c c)<|J c<|ac<|cK (IntKind.i64.wrap (s25 + 1)) H36 (.cons c<|.cons c<|.cons c<|.cons c<|.cons c<|.nil _) .slnil) fun k28 H29=>bi<|M<|O c<|ai<|Y ⟨false,c,H29⟩) fun k22 H23=>M<|O c<|M<|O c<|ai<|Y ⟨false,c,H23⟩) fun k7 H8=>W (aQ k7)<|p (aq c k7 c)<|ac<|ev_no c c<|an<|eo (xj a1 a2 K Rec2 s1) (fun s46=>[(0,s1),(1,a1),(2,(.bool a2))]) (fun s46=>[]) (M<|J c<|aa<|aR H8 (fV c) c fun v22 _ H71=>J c<|p (aj c c)<|p (aj c c)<|p (ar c)<|O c<|M<|J c<|J c<|V c c (ay _) (fun g72=>wv<|ah c)<|V c c (ay _) (fun g73=>wv<|ah c)<|bT H71 (fun k75 H76=>F (D k75)<|fY H76 (fX (vs:=[a1]) (aD c k75)<|aS (aD c k75) bS) c fun v29 _ H77=>p (aT c k75 c)<|ac<|av c H77 (fun k78 H79=>M<|O c<|ai<|Y ⟨true,c,H79⟩) fun k78 H79=>an<|cE () H79 (.cons c<|.cons c<|.cons c<|.nil _) .slnil) fun k75 H76=>W (aQ k75)<|p (aq c k75 c)<|ac<|ev_no c c<|an<|cE () H76 (.cons c<|.cons c<|.cons c<|.nil _) .slnil) fun s46 _ H47=>M<|J c<|ac<|ax<|M<|aa<|aR H47 (fV c) c fun v32 _ H48=>p (aj c c)<|p (aj c c)<|ac<|av c H48 (fun k49 H50=>M<|O c<|M<|J c<|aa<|fY H50 (fX (vs:=[]) c c) c fun v36 _ H51=>O c<|M<|J c<|aa<|aR H51 (gi c c) c fun v38 _ H52=>ac<|av c H52 (fun k53 H54=>M<|O c<|ai<|Y ⟨false,c,H54⟩) fun k53 H54=>an<|cK v36 H54 (.cons c<|.cons c<|.cons c<|.nil _) .slnil) fun k49 H50=>M<|aa<|aR H50 (fV c) c fun v39 _ H55=>p (aj c c)<|p (aj c c)<|ac<|av c H55 (fun k56 H57=>M<|O c<|ak<|M<|J c<|aa<|fY H57 (fX (vs:=[]) c c) c fun v43 _ H58=>p (dz c Tryz.underlying253 c)<|J c<|ac<|ax<|bD (step:=errors_is_l3 a1 a2 K v43) (fun s59=>[(1,a1),(2,(.bool a2)),(43,(sv v43)),(44,(.int .i64 (v43.len:Int))),(45,(.int .i64 s59))]) (fun s59=>[]) H58 (.cons c<|.cons c<|.cons c<|.cons c<|.cons c<|.nil _) .slnil fun Rec60 s59 _ H61=>M<|p (ct c c)<|ac<|ak<|av c H61 (fun k62 H63=>an<|ak<|ax<|M<|cj H63 fun q47 e64 h65 H66=>p (bo slc_253 (aL c<|ba e64) c h65)<|aa<|aV H66 sc_171 c (fun _=>c) c fun x48 H67=>O c<|M<|J c<|J c<|J c<|aa<|Z H67 en_174 fun r52 _ H68=>ac<|av c H68 (fun k69 H70=>M<|O c<|ai<|Y ⟨true,c,H70⟩) fun k69 H70=>an<|ao<|p (bp c c)<|J c<|ac<|cK (IntKind.i64.wrap (s59 + 1)) H70 (.cons c<|.cons c<|.cons c<|.cons c<|.cons c<|.nil _) .slnil) fun k62 H63=>bi<|M<|O c<|ai<|Y ⟨false,c,H63⟩) fun k56 H57=>M<|O c<|M<|O c<|ai<|Y ⟨false,c,H57⟩
def wJ (a0:Value) (a1:Value) (K:Bool→Hp→Prop):Hp→Prop:=hpv Tryz.prog (do eqGuard .eql 171 (.tmp 6) (.const Value.nilIface) a0 Value.nilIface; binOp .eql 171 a0 Value.nilIface:Sem Value) aB fun (v7:Bool)=>br (!v7) ( hpv Tryz.prog (do eqGuard .eql 171 (.tmp 9) (.const Value.nilIface) a1 Value.nilIface; binOp .eql 171 a1 Value.nilIface:Sem Value) aB fun (v10:Bool)=>br v10 ( hpv Tryz.prog (do eqGuard .eql 171 (.tmp 12) (.tmp 13) a0 a1; binOp .eql 171 a0 a1:Sem Value) aB fun (v14:Bool)=>K v14) ( cln Tryz.prog (callFunc fZ #[a1]) encV fun (v16:Value)=>cln Tryz.prog (callMethod v16 "Comparable" #[]) aB fun (v17:Bool)=>cl Tryz.prog nG [a0,a1,(.bool v17)] aB fun r21=>K r21)) ( hpv Tryz.prog (do eqGuard .eql 171 (.tmp 12) (.tmp 13) a0 a1; binOp .eql 171 a0 a1:Sem Value) aB fun (v14:Bool)=>K v14)
theorem sim_errors_Is (a0:Value) (a1:Value) {K:Bool→Hp→Prop} {h:Hp} (H:wJ a0 a1 K h):Ct Tryz.prog nH #[a0,a1] h fun v h'=>∃ r,v = aB r∧K r h':=aw [a0,a1] Tryz.func133 c c c fun _=>M<|O c<|ak<|M<|J c<|aa<|aR H (gi c c) c fun v7 _ H1=>J c<|V c c (aM _) (fun g2=>wv<|ah c)<|bT H1 (fun k4 H5=>F (D<|cf k4)<|aR H5 (gi (aD c k4) c) c fun v10 _ H6=>p (aq c (cf k4) c)<|ac<|av c H6 (fun k7 H8=>M<|J c<|J c<|aa<|aR H8 (gi c c) c fun v14 _ H9=>O c<|ai<|Y ⟨v14,c,H9⟩) fun k7 H8=>an<|M<|J c<|aa<|fY H8 (rH (vs:=[a1]) c) c fun v16 _ H10=>aa<|fY H10 (fX (vs:=[]) c c) c fun v17 _ H11=>O c<|M<|J c<|J c<|J c<|aa<|Z H11 en_174 fun r21 _ H12=>O c<|ai<|Y ⟨r21,c,H12⟩) fun k4 H5=>W (cc<|bH k4)<|p (aT c (bH k4) c)<|ac<|mu c c<|M<|J c<|J c<|aa<|aR H5 (gi c c) c fun v14 _ H13=>O c<|ai<|Y ⟨v14,c,H13⟩
end Go.Proofs.YtniiiakkdoiaiaaGreatDoor
