/- Part of the proof of: The law RaceAlloc returns true for every input, and leaves its arguments as they were. -/
import Derived.Test.YtemoifebbhoinaaGreatDoorRaceAlloc05
set_option linter.all false
set_option maxRecDepth 20000
namespace Go.Proofs.YtemoifebbhoinaaGreatDoor
open Tryz
section
open Go Mb
theorem idx_spec (a:Int):∀ (xs:List Int) (i:Int),(fh a xs i = -1/\a ∉ xs)\/∃ n:Nat,fh a xs i = i + n/\xs[n]? = some a/\∀ m,m < n->xs[m]? ≠ some a
 | [],_=>.inl ⟨rfl,by simp⟩
 | x::xs,i=>by
  unfold fh
  split
  ·rename_i h; subst h
   exact .inr ⟨0,by simp,rfl,fun m hm=>by omega⟩
  ·rename_i h
   rcases idx_spec a xs (i + 1) with ⟨h1,h2⟩ | ⟨n,h1,h2,h3⟩
   ·exact .inl ⟨h1,by simp [h,h2]⟩
   ·refine .inr ⟨n + 1,by rw [h1]; omega,h2,fun m hm=>?_⟩
    cases m with
    | zero=>simp; exact fun e=>h e.symm
    | succ m=>exact h3 m (by omega)
namespace fAa
theorem under_empty {t:T} (ok:Ok t) {p:bV} (h0:(get t p.fCa p.fDa).fBa = 0):∀ (n:Nat) (a b:Int),deep 40 t (get t a b) <= n->has t a b = true->under t (get t a b) p = false:=by
 intro n
 induction n with
 | zero =>
  intro a b hd hab
  rw [under_step ok hab]
  by_cases hen:(get t a b).fBa ≠ 0/\0 <= (get t a b).fCa
  ·have:=deep_step ok hab hen; omega
  ·rw [if_neg hen]
 | succ n ih =>
  intro a b hd hab
  rw [under_step ok hab]
  by_cases hen:(get t a b).fBa ≠ 0/\0 <= (get t a b).fCa
  ·have hd2:=deep_step ok hab hen
   obtain ⟨p1,p2⟩:=parent_has ok hab hen.1 hen.2
   rw [if_pos hen,if_neg,ih _ _ (by omega) p1]
   rintro ⟨e1,e2⟩
   rw [e1,e2] at p2; exact p2 h0
  ·rw [if_neg hen]
theorem cnt_put0 (f:Int) {t:T} (row:∀ r ∈ t,r.length = 8) {e s:Int} (h:has t e s = true) (h0:(get t e s).fBa = 0) {c:Cap} (hc:c.fBa ≠ 0):cnt f (put t e s c) = cnt f t + (if c.fEa = f then 1 else 0):=by
 have h1:=cnt_put f row h c
 have h2:b2n (isF f (get t e s)) = 0:=by unfold b2n isF; simp [h0]
 have h3:b2n (isF f c) = if c.fEa = f then 1 else 0:=by unfold b2n isF; by_cases e:c.fEa = f <;> simp [hc,e]
 omega
end fAa
namespace PK
structure Mv (k k':PK):Prop where
 fine:Fine k'
 s:k'.s = k.s
 keep:∀ e pg,(q k e pg).fBa ≠ 0->(q k' e pg).fBa ≠ 0->fAa.Keep k.caps k'.caps e (q k e pg).fDa
def Mono (k k':PK):Prop:=∀ e pg,(q k e pg).fBa ≠ 0->q k' e pg = q k e pg
theorem Mv.refl {k:PK} (F:Fine k):Mv k k:=⟨F,rfl,fun _ _ _ _=>fAa.Keep.refl _ _ _⟩
theorem Mono.refl (k:PK):Mono k k:=fun _ _ _=>rfl
theorem has_iff {k:PK} (ok:PK.Ok k) {e s:Int}:fAa.has k.caps e s = true↔off k e = false/\0 <= s/\s < 8:=by
 have:=ok.cl
 rw [off_iff]
 unfold fAa.has
 constructor
 ·intro h; have:=of_decide_eq_true h; omega
 ·intro h; exact decide_eq_true (by omega)
theorem fine_frame {n:Int} {t:fAa.T} (F:eC n t) {e s:Int} (h:fAa.has t e s = true) (hr:(fAa.get t e s).fBa ≠ 0):0 <= (fAa.get t e s).fEa/\(fAa.get t e s).fEa < n:=by
 rcases F e s h with e1 | e1 | e1
 ·rw [e1] at hr; exact absurd rfl hr
 ·exact ⟨e1.2.2.2.1,e1.2.2.2.2⟩
 ·exact ⟨e1.2.1,e1.2.2.1⟩
theorem mv_put {k k':PK} (F:Fine k) (ok':PK.Ok k') {e s:Int} {c:Cap} (hs:k'.s = k.s) (ht:k'.tabs = k.tabs) (hh:fAa.has k.caps e s = true) (h0:(fAa.get k.caps e s).fBa = 0) (hc:0 <= c.fCa->fAa.has k.caps c.fCa c.fDa = true/\(fAa.get k.caps c.fCa c.fDa).fBa ≠ 0)
  (hcaps:k'.caps = fAa.put k.caps e s c) (num:∀ f:Int,0 <= f->f < k'.s.fAb->Pool.refs k'.pool f = fAa.cnt f k'.caps):Mv k k'/\Mono k k':=by
 have qs:=q_same ht hs
 have kp:∀ a b,fAa.has k.caps a b = true->(fAa.get k.caps a b).fBa ≠ 0->fAa.Keep k.caps k'.caps a b:=fun a b h1 h2=>by rw [hcaps]; exact fAa.keep_put F.ok.tree hh h0 hc h1 h2
 refine ⟨⟨⟨ok',fun a pg hq=>?_,num⟩,hs,fun a pg hq _=>?_⟩,fun a pg _=>qs a pg⟩
 ·rw [qs] at hq ⊢
  obtain ⟨h1,h2,h3⟩:=F.by_ a pg hq
  have hn:(fAa.get k.caps a (q k a pg).fDa).fBa ≠ 0:=by have:=(df h3).2; omega
  have:=(kp a _ h1 hn).g
  rw [this]
  exact ⟨by rw [hcaps,fAa.put_has]; exact h1,h2,h3⟩
 ·obtain ⟨h1,h2,h3⟩:=F.by_ a pg hq
  exact kp a _ h1 (by have:=(df h3).2; omega)
theorem at_snd (t:fAa.T) (e s:Int):(fAa.at_ t e s).2 = true↔fAa.has t e s = true/\(fAa.get t e s).fBa ≠ 0:=by
 unfold fAa.at_; split <;> simp_all
theorem at_of {t:fAa.T} {e s:Int} (h:fAa.has t e s = true) (hr:(fAa.get t e s).fBa ≠ 0):fAa.at_ t e s = (fAa.get t e s,true):=by unfold fAa.at_; rw [if_pos ⟨h,hr⟩]
theorem mv_alloc {k:PK} (F:Fine k) {e s:Int} (hh:fAa.has k.caps e s = true):Mv k (alloc k e s).2/\Mono k (alloc k e s).2:=by
 have oka:=ok_alloc F.ok e s
 unfold alloc at oka ⊢
 split
 ·exact ⟨.refl F,.refl k⟩
 ·rename_i h1
  rw [if_neg h1] at oka
  split
  ·exact ⟨.refl F,.refl k⟩
  ·rename_i h2
   rw [if_neg h2] at oka
   have h0:(fAa.get k.caps e s).fBa = 0:=by
    cases Decidable.em ((fAa.get k.caps e s).fBa = 0) with
    | inl h=>exact h
    | inr h=>exact absurd ((at_snd _ _ _).2 ⟨hh,h⟩) h1
   have ht:=take_in (by simpa using h2)
   have hsz:=fA.1 F.ok.sz
   have hpl:=F.ok.pl
   have hroot:fAa.root k.caps e s (Pool.take k.pool).1 = (0,fAa.put k.caps e s ⟨(Pool.take k.pool).1,3,-1,0⟩):=by
    unfold fAa.root
    rw [if_neg (by rw [hh]; simp; omega),if_neg (by simp [h0])]
   rw [hroot] at oka ⊢
   refine mv_put F oka rfl rfl hh h0 (fun h=>absurd h (by show ¬ (0:Int) <= -1; omega)) rfl fun f f0 f1=>?_
   rcases idx_spec 0 k.pool 0 with ⟨i1,_⟩ | ⟨n,i1,i2,_⟩
   ·exfalso; apply h2; unfold Pool.take; rw [if_pos (by rw [i1]; decide)]
   ·have htk:Pool.take k.pool = ((n:Int),true,k.pool.set n 1):=by
     unfold Pool.take; rw [if_neg (by rw [i1]; omega),i1]; simp
    rw [htk]
    have hn:=(List.getElem?_eq_some_iff.1 i2).1
    show Pool.refs (k.pool.set n 1) f = (fAa.cnt f (fAa.put k.caps e s ⟨(n:Int),3,-1,0⟩):Int)
    rw [fAa.cnt_put0 f F.ok.tree.row hh h0 (show (3:Int) ≠ 0 by decide)]
    have:=refs_set (p:=k.pool) (i:=(n:Int)) (by omega) (by omega) 1 f f0
    rw [Int.toNat_natCast] at this
    rw [this]
    have hnum:=F.num f f0 f1
    by_cases e1:f = n
    ·subst e1
     rw [if_pos rfl,if_pos rfl]
     rw [refs_nn (by omega),Int.toNat_natCast,i2] at hnum
     simp at hnum
     omega
    ·rw [if_neg e1,if_neg (by simp; omega),hnum]; simp
theorem mv_derive {k:PK} (F:Fine k) {e src to dst r:Int} (h1:fAa.has k.caps e src = true) (h2:fAa.has k.caps to dst = true):Mv k (derive k e src to dst r).2/\Mono k (derive k e src to dst r).2:=by
 have oka:=ok_derive F.ok e src to dst r
 unfold derive at oka ⊢
 split
 ·exact ⟨.refl F,.refl k⟩
 ·rename_i h0
  rw [if_neg h0] at oka
  have hd:ch r = true/\(fAa.get k.caps e src).fBa ≠ 0/\(fAa.get k.caps to dst).fBa = 0/\fAa.derive k.caps e src to dst r = (0,fAa.put k.caps to dst ⟨(fAa.get k.caps e src).fEa,r,e,src⟩):=by
   unfold fAa.derive at h0 ⊢
   split at h0
   ·exact absurd (by simp) h0
   ·rename_i c1
    rw [if_neg c1]
    split at h0
    ·exact absurd (by simp) h0
    ·rename_i c2
     rw [if_neg c2]
     split at h0
     ·exact absurd (by simp) h0
     ·rename_i c3
      rw [if_neg c3]
      split at h0
      ·exact absurd (by simp) h0
      ·rename_i c4
       rw [if_neg c4]
       simp only [not_or,Bool.not_eq_false] at c1
       exact ⟨c1.2.2,c2,by simpa using c3,rfl⟩
  obtain ⟨hm,hsr,hds,he⟩:=hd
  have hr0:r ≠ 0:=by have:=uB.1 hm; omega
  have hev:0 <= e:=((has_iff F.ok).1 h1).1 |> fun h=>(off_iff.1 h).1
  rw [he] at oka ⊢
  have hpg:fAa.get (fAa.put k.caps to dst ⟨(fAa.get k.caps e src).fEa,r,e,src⟩) to dst = ⟨(fAa.get k.caps e src).fEa,r,e,src⟩:=by rw [fAa.get_put F.ok.tree.row h2 h2,if_pos ⟨rfl,rfl⟩]
  have hat:fAa.at_ (fAa.put k.caps to dst ⟨(fAa.get k.caps e src).fEa,r,e,src⟩) to dst = (⟨(fAa.get k.caps e src).fEa,r,e,src⟩,true):=by
   rw [at_of (by rw [fAa.put_has]; exact h2) (by rw [hpg]; exact hr0),hpg]
  have hc:0 <= e->fAa.has k.caps e src = true/\(fAa.get k.caps e src).fBa ≠ 0:=fun _=>⟨h1,hsr⟩
  have hfr:=fine_frame F.ok.fine h1 hsr
  have hpos:=fAa.cnt_pos F.ok.tree.row h1 hsr rfl
  have hnum:=F.num _ hfr.1 hfr.2
  simp only [hat] at oka ⊢
  split
  ·rename_i h3
   have okp:=fAa.ok_put F.ok.tree h2 hds ⟨(fAa.get k.caps e src).fEa,r,e,src⟩ hc
   have hleaf:fAa.drop (fAa.put k.caps to dst ⟨(fAa.get k.caps e src).fEa,r,e,src⟩) to dst = (([⟨to,dst⟩],0),k.caps):=by
    have ho:fAa.own (fAa.put k.caps to dst ⟨(fAa.get k.caps e src).fEa,r,e,src⟩) to dst = [⟨to,dst⟩]:=by
     refine fAa.own_leaf okp (by rw [fAa.put_has]; exact h2) (by rw [hpg]; exact hr0) fun a b hab hne=>?_
     rw [fAa.put_has] at hab
     by_cases hs:a = to/\b = dst
     ·obtain ⟨rfl,rfl⟩:=hs
      exact fAa.not_under_self okp (by rw [fAa.put_has]; exact h2)
     ·have hg:fAa.get (fAa.put k.caps to dst ⟨(fAa.get k.caps e src).fEa,r,e,src⟩) a b = fAa.get k.caps a b:=by rw [fAa.get_put F.ok.tree.row h2 hab,if_neg hs]
      rw [hg] at hne ⊢
      rw [fAa.under_put F.ok.tree h2 hds hc _ _ a b (Nat.le_refl _) hab hne]
      exact fAa.under_empty F.ok.tree (p:=⟨to,dst⟩) hds _ a b (Nat.le_refl _) hab
    have hlook:fAa.look (fAa.put k.caps to dst ⟨(fAa.get k.caps e src).fEa,r,e,src⟩) to dst = 0:=by
     unfold fAa.look; rw [if_neg (by rw [fAa.put_has,h2]; simp),if_neg (by rw [hpg]; exact hr0)]
    unfold fAa.drop
    rw [if_neg (by rw [hlook]; simp),ho]
    show ((_,_),fAa.put (fAa.put k.caps to dst _) to dst kP) = _
    rw [fAa.put_put _ _ h2,← fAa.cap_zero F.ok.fine h2 hds,fAa.put_self F.ok.tree.row h2]
   rw [hleaf]
   exact ⟨.refl F,.refl k⟩
  ·rename_i h3
   rw [if_neg h3] at oka
   refine mv_put F oka rfl rfl h2 hds hc rfl fun f f0 f1=>?_
   have hh:Pool.hold k.pool (fAa.get k.caps e src).fEa = (true,k.pool.set (fAa.get k.caps e src).fEa.toNat (Pool.refs k.pool (fAa.get k.caps e src).fEa + 1)):=by
    unfold Pool.hold at h3 ⊢
    split at h3
    ·exact absurd rfl h3
    ·rename_i c1
     have hrf:=refs_fine F.ok.pr (fAa.get k.caps e src).fEa
     rw [if_neg c1,wrapR (by omega) (by omega)]
   rw [hh]
   show Pool.refs (k.pool.set _ _) f = (fAa.cnt f (fAa.put k.caps to dst _):Int)
   rw [fAa.cnt_put0 f F.ok.tree.row h2 hds (show r ≠ 0 from hr0)]
   have hpl:=F.ok.pl
   rw [refs_set hfr.1 (by omega) _ f f0]
   have hnf:=F.num f f0 f1
   by_cases e1:f = (fAa.get k.caps e src).fEa
   ·rw [if_pos e1,if_pos e1.symm,← e1,hnf]; simp
   ·rw [if_neg e1,if_neg (fun h=>e1 h.symm),hnf]; simp
end PK
end
section
open Go Mb
namespace PK
theorem goers_frame {k:PK} (F:Fine k) {e s:Int} {w:Bool} (h:fAa.has k.caps e s = true) (hn:(fAa.get k.caps e s).fBa ≠ 0) {p:bV} (hp:p ∈ fAa.fZa k.caps e s w):(fAa.get k.caps p.fCa p.fDa).fEa = (fAa.get k.caps e s).fEa:=by
 obtain ⟨h1,h2,h3⟩:=(fAa.mem_goers F.ok.tree h hn).1 hp
 rcases h3 with ⟨_,rfl⟩ | h3
 ·rfl
 ·exact fAa.under_frame F.ok.tree F.ok.fine _ _ _ (Nat.le_refl _) h1 _ h3
theorem revoke_eq {k:PK} (F:Fine k) {e s:Int} {w:Bool} (h:fAa.has k.caps e s = true) (hn:(fAa.get k.caps e s).fBa ≠ 0) :
  revoke k e s w = (⟨0,IntKind.u64.wrap (fAa.fZa k.caps e s w).length⟩,gone { k with caps:=fAa.fUa k.caps (fAa.fZa k.caps e s w) } (fAa.get k.caps e s).fEa (fAa.fZa k.caps e s w)):=by
 have hlook:fAa.look k.caps e s = 0:=by unfold fAa.look; rw [if_neg (by rw [h]; simp),if_neg hn]
 have hrv:fAa.revoke k.caps e s = ((fAa.below k.caps e s,0),fAa.fUa k.caps (fAa.below k.caps e s)):=by unfold fAa.revoke; rw [if_neg (by rw [hlook]; simp)]
 unfold revoke
 rw [hrv,if_neg (by simp),at_of h hn]
 cases w with
 | true =>
  rw [if_pos rfl]
  simp only [fAa.drop_after F.ok.tree h hn]
  unfold fAa.fZa
  rw [if_pos rfl]
 | false =>
  rw [if_neg Bool.false_ne_true]
  unfold fAa.fZa
  rw [if_neg Bool.false_ne_true]
theorem revoke_no {k:PK} {e s:Int} {w:Bool} (h:fAa.has k.caps e s = true) (hn:(fAa.get k.caps e s).fBa = 0):revoke k e s w = (⟨3,0⟩,k):=by
 have hlook:fAa.look k.caps e s = 3:=by unfold fAa.look; rw [if_neg (by rw [h]; simp),if_pos hn]
 have hrv:fAa.revoke k.caps e s = (([],3),k.caps):=by unfold fAa.revoke; rw [if_pos (by rw [hlook]; simp),hlook]
 unfold revoke
 rw [hrv,if_pos (by simp)]
theorem revoke_q {k:PK} (F:Fine k) {e s:Int} {w:Bool} (h:fAa.has k.caps e s = true) (hn:(fAa.get k.caps e s).fBa ≠ 0) (a pg:Int) :
  q (revoke k e s w).2 a pg = if (q k a pg).fBa ≠ 0/\(⟨a,(q k a pg).fDa⟩:bV) ∈ fAa.fZa k.caps e s w then dc else q k a pg:=by
 rw [revoke_eq F h hn]
 have ok1:=ok_caps F.ok (t:=fAa.fUa k.caps (fAa.fZa k.caps e s w)) (fAa.empties_len _ _) (fAa.ok_empties F.ok.tree (fAa.goers_has F.ok.tree h hn) (fAa.goers_cl F.ok.tree h hn)) (fAa.fine_empties F.ok.tree F.ok.fine (fAa.goers_has F.ok.tree h hn) (fAa.goers_cl F.ok.tree h hn))
 exact gone_q _ ok1 _ (fun p hp=>((has_iff F.ok).1 (fAa.goers_has F.ok.tree h hn p hp)).1) a pg
theorem mv_revoke {k:PK} (F:Fine k) {e s:Int} {w:Bool} (h:fAa.has k.caps e s = true):Mv k (revoke k e s w).2:=by
 by_cases hn:(fAa.get k.caps e s).fBa = 0
 ·rw [revoke_no h hn]; exact .refl F
 have okr:=ok_revoke F.ok e s w
 have hq:=revoke_q F (w:=w) h hn
 rw [revoke_eq F h hn] at okr hq ⊢
 have hgs:=gone_same (fAa.fZa k.caps e s w) { k with caps:=fAa.fUa k.caps (fAa.fZa k.caps e s w) } (fAa.get k.caps e s).fEa
 have hcl:=fAa.goers_cl F.ok.tree (w:=w) h hn
 have hhas:=fAa.goers_has F.ok.tree (w:=w) h hn
 have hcaps:(gone { k with caps:=fAa.fUa k.caps (fAa.fZa k.caps e s w) } (fAa.get k.caps e s).fEa (fAa.fZa k.caps e s w)).caps = fAa.fUa k.caps (fAa.fZa k.caps e s w):=hgs.1
 have hss:(gone { k with caps:=fAa.fUa k.caps (fAa.fZa k.caps e s w) } (fAa.get k.caps e s).fEa (fAa.fZa k.caps e s w)).s = k.s:=hgs.2.1
 have keep:∀ a pg,(q k a pg).fBa ≠ 0->(⟨a,(q k a pg).fDa⟩:bV) ∉ fAa.fZa k.caps e s w->fAa.Keep k.caps (fAa.fUa k.caps (fAa.fZa k.caps e s w)) a (q k a pg).fDa:=fun a pg h1 h2=>by
  obtain ⟨b1,b2,b3⟩:=F.by_ a pg h1
  exact fAa.keep_empties F.ok.tree hhas hcl b1 (by have:=(df b3).2; omega) h2
 refine ⟨⟨okr,fun a pg hne=>?_,fun f f0 f1=>?_⟩,hss,fun a pg h1 h2=>?_⟩
 ·simp only at hne ⊢
  rw [hcaps]
  have hq':q (gone { k with caps:=fAa.fUa k.caps (fAa.fZa k.caps e s w) } (fAa.get k.caps e s).fEa (fAa.fZa k.caps e s w)) a pg = _:=hq a pg
  rw [hq'] at hne ⊢
  split at hne
  ·exact absurd rfl hne
  ·rename_i hc
   rw [if_neg hc]
   obtain ⟨b1,b2,b3⟩:=F.by_ a pg hne
   have:=(keep a pg hne (fun hm=>hc ⟨hne,hm⟩)).g
   rw [this]
   exact ⟨by rw [fAa.empties_has]; exact b1,b2,b3⟩
 ·simp only at f1 ⊢
  rw [hss] at f1
  rw [hcaps]
  have hfr:=fine_frame F.ok.fine h hn
  have hcnt:=fAa.cnt_empties f (fAa.fZa k.caps e s w) F.ok.tree.row (fAa.goers_nd F.ok.tree h) (fun p hp=>⟨hhas p hp,((fAa.mem_goers F.ok.tree h hn).1 hp).2.1⟩)
  have hcnt0:=fAa.cnt_empties (fAa.get k.caps e s).fEa (fAa.fZa k.caps e s w) F.ok.tree.row (fAa.goers_nd F.ok.tree h) (fun p hp=>⟨hhas p hp,((fAa.mem_goers F.ok.tree h hn).1 hp).2.1⟩)
  have hall:(fAa.fZa k.caps e s w).countP (fun p=>decide ((fAa.get k.caps p.fCa p.fDa).fEa = (fAa.get k.caps e s).fEa)) = (fAa.fZa k.caps e s w).length:=by
   rw [List.countP_eq_length]
   intro p hp
   simp [goers_frame F h hn hp]
  rw [hall] at hcnt0
  have hnum0:=F.num _ hfr.1 hfr.2
  have hp:=gone_pool (fAa.fZa k.caps e s w) (k:={ k with caps:=fAa.fUa k.caps (fAa.fZa k.caps e s w) }) (fAa.get k.caps e s).fEa F.ok.pr (by show _ <= Pool.refs k.pool _; rw [hnum0]; omega) f f0
  rw [hp]
  by_cases e1:f = (fAa.get k.caps e s).fEa
  ·rw [if_pos e1]
   subst e1
   show Pool.refs k.pool _ - _ = _
   rw [hnum0]; omega
  ·rw [if_neg e1]
   have hz:(fAa.fZa k.caps e s w).countP (fun p=>decide ((fAa.get k.caps p.fCa p.fDa).fEa = f)) = 0:=by
    rw [List.countP_eq_zero]
    intro p hp
    rw [goers_frame F h hn hp]
    simp; exact fun h=>e1 h.symm
   rw [hz] at hcnt
   show Pool.refs k.pool f = _
   rw [F.num f f0 f1]; omega
 ·simp only at h2 ⊢
  rw [hcaps]
  have hq':q (gone { k with caps:=fAa.fUa k.caps (fAa.fZa k.caps e s w) } (fAa.get k.caps e s).fEa (fAa.fZa k.caps e s w)) a pg = _:=hq a pg
  rw [hq'] at h2
  split at h2
  ·exact absurd rfl h2
  ·rename_i hc
   exact keep a pg h1 (fun hm=>hc ⟨h1,hm⟩)
theorem mv_tabs {k k':PK} (F:Fine k) (ok':PK.Ok k') (hs:k'.s = k.s) (hc:k'.caps = k.caps) (hp:k'.pool = k.pool) (h:∀ a pg,(q k' a pg).fBa ≠ 0->fAa.has k.caps a (q k' a pg).fDa = true/\(fAa.get k.caps a (q k' a pg).fDa).fEa = (q k' a pg).fEa/\aQ (q k' a pg).fBa (fAa.get k.caps a (q k' a pg).fDa).fBa = true):Mv k k' :=
 ⟨⟨ok',fun a pg hne=>by rw [hc]; exact h a pg hne,fun f f0 f1=>by rw [hc,hp]; exact F.num f f0 (by rw [← hs]; exact f1)⟩,hs,fun a pg _ _=>by rw [hc]; exact fAa.Keep.refl _ _ _⟩
theorem mv_maps {k:PK} (F:Fine k) {e pg s r:Int} (he:off k e = false) (h:fAa.has k.caps e s = true):Mv k (maps k e pg s r).2/\Mono k (maps k e pg s r).2:=by
 have okm:=ok_maps F.ok e pg s r
 unfold maps at okm ⊢
 split
 ·exact ⟨.refl F,.refl k⟩
 ·rename_i h1
  rw [if_neg h1] at okm
  split
  ·exact ⟨.refl F,.refl k⟩
  ·rename_i h2
   rw [if_neg h2] at okm
   split
   ·exact ⟨.refl F,.refl k⟩
   ·rename_i h3
    rw [if_neg h3] at okm
    have hc:(fAa.get k.caps e s).fBa ≠ 0:=((at_snd _ _ _).1 (by simpa using h1)).2
    rw [at_of h hc] at okm h3 ⊢
    have hl:=(tab_in F.ok he).2
    have hg0:(Table.get (tab k e) pg).2 = false:=by simpa using h2
    have key:∀ a p,q { k with tabs:=k.tabs.set e.toNat (Table.insert (tab k e) pg ⟨(fAa.get k.caps e s).fEa,s,r⟩).2 } a p = q k a p\/((a = e/\p = pg)/\q { k with tabs:=k.tabs.set e.toNat (Table.insert (tab k e) pg ⟨(fAa.get k.caps e s).fEa,s,r⟩).2 } a p = ⟨(fAa.get k.caps e s).fEa,s,r⟩):=by
     intro a p
     rw [q_tabs F.ok he]
     by_cases ha:a = e
     ·subst ha
      rw [if_pos rfl]
      by_cases hz:(Table.insert (tab k a) pg ⟨(fAa.get k.caps a s).fEa,s,r⟩).1 = 0
      ·rw [Table.get_insert hl _ _ hz]
       by_cases hp:p = pg
       ·subst hp
        rw [if_pos rfl]
        exact .inr ⟨⟨rfl,rfl⟩,rfl⟩
       ·rw [if_neg hp,ur he]; exact .inl rfl
      ·rw [Table.insert_same _ _ hz,ur he]; exact .inl rfl
     ·rw [if_neg ha]; exact .inl rfl
    refine ⟨mv_tabs F okm rfl rfl rfl fun a p hne=>?_,fun a p hne=>?_⟩
    ·simp only at hne ⊢
     rcases key a p with e1 | ⟨⟨rfl,rfl⟩,e1⟩
     ·rw [e1] at hne ⊢; exact F.by_ a p hne
     ·rw [e1]
      exact ⟨h,rfl,by simpa using h3⟩
    ·simp only
     rcases key a p with e1 | ⟨⟨rfl,rfl⟩,e1⟩
     ·exact e1
     ·exfalso
      rw [ur he] at hne
      rw [Table.get_snd] at hg0
      exact hne (by simpa using hg0)
theorem remove_q {k:PK} (ok:PK.Ok k) {e pg:Int} (he:off k e = false) (a p:Int):q (remove k e pg).2 a p = if e = a/\pg = p then dc else q k a p:=by
 unfold remove
 show q { k with tabs:=k.tabs.set e.toNat (Table.remove (tab k e) pg).2 } a p = _
 rw [q_tabs ok he]
 by_cases ha:a = e
 ·subst ha
  rw [if_pos rfl,Table.get_remove (tab_in ok he).2]
  by_cases hp:p = pg
  ·subst hp; rw [if_pos rfl,if_pos ⟨rfl,rfl⟩]
  ·rw [if_neg hp,if_neg (fun h=>hp h.2.symm),ur he]
 ·rw [if_neg ha,if_neg (fun h=>ha h.1.symm)]
theorem mv_remove {k:PK} (F:Fine k) {e pg:Int} (he:off k e = false):Mv k (remove k e pg).2:=by
 refine mv_tabs F (ok_remove F.ok e pg) rfl rfl rfl fun a p hne=>?_
 rw [remove_q F.ok he] at hne ⊢
 split at hne
 ·exact absurd rfl hne
 ·rename_i hc; rw [if_neg hc]; exact F.by_ a p hne
def mayP (k:PK) (e pg r:Int):Prop:=(q k e pg).fBa ≠ 0/\aQ r (fAa.get k.caps e (q k e pg).fDa).fBa = true
instance (k:PK) (e pg r:Int):Decidable (mayP k e pg r):=by unfold mayP; infer_instance
theorem protect_q {k:PK} (F:Fine k) {e pg r:Int} (he:off k e = false) (a p:Int):q (protect k e pg r).2 a p = if (e = a/\pg = p)/\mayP k e pg r then { q k a p with fBa:=r } else q k a p:=by
 unfold protect
 by_cases h1:(Table.get (tab k e) pg).2 = false
 ·rw [if_pos h1,if_neg]
  rintro ⟨_,h2,_⟩
  rw [ur he] at h2
  rw [Table.get_snd] at h1
  exact h2 (by simpa using h1)
 ·rw [if_neg h1]
  have h1':(Table.get (tab k e) pg).2 = true:=by simpa using h1
  have hq:(q k e pg).fBa ≠ 0:=by rw [ur he]; rw [Table.get_snd] at h1'; simpa using h1'
  have hb:=F.by_ e pg hq
  rw [ur he] at hb
  have hat:=at_of hb.1 (by have:=(df hb.2.2).2; omega)
  rw [hat]
  by_cases h2:aQ r (fAa.get k.caps e (Table.get (tab k e) pg).1.fDa).fBa = false
  ·rw [if_pos h2,if_neg]
   rintro ⟨_,_,h3⟩
   rw [ur he,h2] at h3; cases h3
  ·rw [if_neg h2]
   have h2':aQ r (fAa.get k.caps e (Table.get (tab k e) pg).1.fDa).fBa = true:=by simpa using h2
   show q { k with tabs:=k.tabs.set e.toNat (Table.protect (tab k e) pg r).2 } a p = _
   have hm:mayP k e pg r:=⟨hq,by rw [ur he]; exact h2'⟩
   have hr:ch r = true:=by have:=(df h2').1; exact uB.2 this
   rw [q_tabs F.ok he]
   by_cases ha:a = e
   ·subst ha
    rw [if_pos rfl,Table.get_protect (tab_in F.ok he).2 _ _ _ h1' hr]
    by_cases hp:p = pg
    ·subst hp; rw [if_pos rfl,if_pos ⟨⟨rfl,rfl⟩,hm⟩,ur he]
    ·rw [if_neg hp,if_neg (fun h=>hp h.1.2.symm),ur he]
   ·rw [if_neg ha,if_neg (fun h=>ha h.1.1.symm)]
theorem mv_protect {k:PK} (F:Fine k) {e pg r:Int} (he:off k e = false):Mv k (protect k e pg r).2:=by
 have hcp:(protect k e pg r).2.caps = k.caps/\(protect k e pg r).2.s = k.s/\(protect k e pg r).2.pool = k.pool:=by
  unfold protect
  split
  ·exact ⟨rfl,rfl,rfl⟩
  ·split <;> exact ⟨rfl,rfl,rfl⟩
 refine mv_tabs F (ok_protect F.ok e pg r) hcp.2.1 hcp.1 hcp.2.2 fun a p hne=>?_
 rw [protect_q F he] at hne ⊢
 split at hne
 ·rename_i hc
  obtain ⟨⟨rfl,rfl⟩,h1,h2⟩:=hc
  rw [if_pos ⟨⟨rfl,rfl⟩,h1,h2⟩]
  have hb:=F.by_ e pg h1
  exact ⟨hb.1,hb.2.1,h2⟩
 ·rename_i hc; rw [if_neg hc]; exact F.by_ a p hne
theorem mv_touch {k:PK} (F:Fine k) (f:Int) (c:da):Mv k (touch k f c).2/\Mono k (touch k f c).2:=by
 have h:=touch_same k f c
 have qs:=q_same h.2.1 h.2.2.2
 exact ⟨⟨fine_touch F f c,h.2.2.2,fun a pg _ _=>by rw [h.1]; exact fAa.Keep.refl _ _ _⟩,fun a pg _=>qs a pg⟩
theorem mv_user {k:PK} (F:Fine k) (e:Int) (c:da):Mv k (user k e c).2/\Mono k (user k e c).2:=by
 unfold user
 split
 ·exact ⟨.refl F,.refl k⟩
 ·exact mv_touch F _ _
end PK
end
section
open Go Mb
def Tk (c:da):Prop:=c.e0 = 4\/c.e0 = 5\/c.e0 = 7\/c.e0 = 8
instance (c:da):Decidable (Tk c):=by unfold Tk; infer_instance
namespace PK
def gz (k:PK) (e:Int) (c:da) (a s:Int):Bool :=
 if c.e0 = 5/\a = e/\s = c.e1 then true else if fAa.has k.caps a s = true then fAa.under k.caps (fAa.get k.caps a s) ⟨e,c.e1⟩ else false
def aft (k:PK) (e:Int) (c:da) (a pg:Int):Pte :=
 if c.e0 = 7 then (if e = a/\c.e1 = pg then dc else q k a pg)
 else if c.e0 = 8 then (if (e = a/\c.e1 = pg)/\mayP k e pg c.e2 then { q k a pg with fBa:=c.e2 } else q k a pg)
 else if (q k a pg).fBa ≠ 0/\gz k e c a (q k a pg).fDa = true then dc else q k a pg
theorem envs_of {k:PK} (ok:PK.Ok k):1 <= k.s.fIa/\k.s.fIa <= 4:=by have:=fA.1 ok.sz; omega
theorem do_bad {k:PK} {e:Int} {c:da} (h:off k e = true\/Word.check c k.s.fIa ≠ 0):(do_ k e c).2 = k/\(do_ k e c).1.2 = true/\(do_ k e c).1.1 = ⟨if off k e = true then 10 else Word.check c k.s.fIa,0⟩:=by
 unfold do_
 by_cases h1:off k e = true
 ·rw [if_pos h1,if_pos h1]; exact ⟨rfl,rfl,rfl⟩
 ·rw [if_neg h1,if_neg h1,if_pos (h.resolve_left h1)]; exact ⟨rfl,rfl,rfl⟩
theorem do_good {k:PK} {e:Int} {c:da} (h1:off k e = false) (h2:Word.check c k.s.fIa = 0):do_ k e c = does k e c:=by
 unfold do_; rw [if_neg (by rw [h1]; simp),if_neg (by rw [h2]; simp)]
theorem w0 {n:Int} {c:da} (w:Well n c):IntKind.i64.wrap c.e0 = c.e0:=bM (by have:=w.kind; omega) (by have:=w.kind; omega)
theorem gz_goers {k:PK} (F:Fine k) {e:Int} {c:da} (hc:c.e0 = 4\/c.e0 = 5) (h:fAa.has k.caps e c.e1 = true) (hn:(fAa.get k.caps e c.e1).fBa ≠ 0) {a s:Int} (ha:fAa.has k.caps a s = true) (hr:(fAa.get k.caps a s).fBa ≠ 0) :
  gz k e c a s = true↔(⟨a,s⟩:bV) ∈ fAa.fZa k.caps e c.e1 (decide (c.e0 = 5)):=by
 rw [fAa.mem_goers F.ok.tree h hn]
 unfold gz
 rw [if_pos ha]
 by_cases h5:c.e0 = 5/\a = e/\s = c.e1
 ·rw [if_pos h5]
  obtain ⟨h51,rfl,rfl⟩:=h5
  simp [h51,ha,hr]
 ·rw [if_neg h5]
  constructor
  ·exact fun hu=>⟨ha,hr,.inr hu⟩
  ·rintro ⟨_,_,⟨h1,h2⟩ | h1⟩
   ·exact absurd ⟨of_decide_eq_true h1,congrArg aG.fCa h2,congrArg aG.fDa h2⟩ h5
   ·exact h1
theorem gz_empty {k:PK} (F:Fine k) {e:Int} {c:da} (hn:(fAa.get k.caps e c.e1).fBa = 0) {a s:Int} (ha:fAa.has k.caps a s = true) (hr:(fAa.get k.caps a s).fBa ≠ 0):gz k e c a s = false:=by
 unfold gz
 rw [if_neg,if_pos ha]
 ·exact fAa.under_empty F.ok.tree (p:=⟨e,c.e1⟩) hn _ a s (Nat.le_refl _) ha
 ·rintro ⟨_,rfl,rfl⟩
  exact hr hn
theorem does_revoke {k:PK} {e:Int} {c:da} (w:Well k.s.fIa c) (cw:Cw c) (hc:c.e0 = 4\/c.e0 = 5):does k e c = (((revoke k e c.e1 (decide (c.e0 = 5))).1,true),(revoke k e c.e1 (decide (c.e0 = 5))).2):=by
 have h1:IntKind.i64.wrap c.e1 = c.e1:=kwr cw.c1 (by have:=w.w1 (by omega); omega)
 unfold does
 rw [w0 w,h1]
 rcases hc with h | h <;> simp [h]
theorem do_q {k:PK} (F:Fine k) {e:Int} {c:da} (cw:Cw c) (he:off k e = false) (hk:Word.check c k.s.fIa = 0) (ht:Tk c) (a pg:Int):q (do_ k e c).2 a pg = aft k e c a pg:=by
 have w:=tP (envs_of F.ok).1 (envs_of F.ok).2 hk
 have h1:IntKind.i64.wrap c.e1 = c.e1:=kwr cw.c1 (by have:=w.w1 (by unfold Tk at ht; omega); omega)
 rw [do_good he hk]
 have h45:c.e0 = 4\/c.e0 = 5->q (does k e c).2 a pg = aft k e c a pg:=by
  intro h
  rw [does_revoke w cw h]
  unfold aft
  rw [if_neg (by omega),if_neg (by omega)]
  have hh:fAa.has k.caps e c.e1 = true:=(has_iff F.ok).2 ⟨he,cw.c1,by have:=w.w1 (by omega); omega⟩
  by_cases hn:(fAa.get k.caps e c.e1).fBa = 0
  ·rw [revoke_no hh hn,if_neg]
   rintro ⟨a1,a2⟩
   have hb:=F.by_ a pg a1
   rw [gz_empty F hn hb.1 (by have:=(df hb.2.2).2; omega)] at a2
   cases a2
  ·show q (revoke k e c.e1 _).2 a pg = _
   rw [revoke_q F hh hn]
   by_cases hz:(q k a pg).fBa ≠ 0
   ·have hb:=F.by_ a pg hz
    have:=gz_goers F h hh hn hb.1 (by have:=(df hb.2.2).2; omega)
    by_cases hg:gz k e c a (q k a pg).fDa = true
    ·rw [if_pos ⟨hz,this.1 hg⟩,if_pos ⟨hz,hg⟩]
    ·rw [if_neg (fun x=>hg (this.2 x.2)),if_neg (fun x=>hg x.2)]
   ·rw [if_neg (fun x=>hz x.1),if_neg (fun x=>hz x.1)]
 rcases ht with h | h | h | h
 ·exact h45 (.inl h)
 ·exact h45 (.inr h)
 ·unfold aft
  rw [if_pos h]
  have:does k e c = errs (remove k e c.e1):=by unfold does; rw [w0 w,h1]; simp [h]
  rw [this]
  exact remove_q F.ok he a pg
 ·unfold aft
  rw [if_neg (by omega),if_pos h]
  have h2:IntKind.i64.wrap c.e2 = c.e2:=kwr cw.c2 (by have:=w.w5 h; omega)
  have:does k e c = errs (protect k e c.e1 c.e2):=by unfold does; rw [w0 w,h1,h2]; simp [h]
  rw [this]
  have hp:=protect_q F he (pg:=c.e1) (r:=c.e2) a pg
  show q (protect k e c.e1 c.e2).2 a pg = _
  rw [hp]
  by_cases hc:e = a/\c.e1 = pg
  ·obtain ⟨rfl,rfl⟩:=hc; rfl
  ·rw [if_neg (fun x=>hc x.1),if_neg (fun x=>hc x.1)]
theorem do_mv {k:PK} (F:Fine k) {e:Int} {c:da} (cw:Cw c):Mv k (do_ k e c).2/\(¬ Tk c->Mono k (do_ k e c).2):=by
 by_cases hb:off k e = true\/Word.check c k.s.fIa ≠ 0
 ·rw [(do_bad hb).1]; exact ⟨.refl F,fun _=>.refl k⟩
 ·simp only [not_or,Bool.not_eq_true,Decidable.not_not] at hb
  obtain ⟨he,hk⟩:=hb
  have w:=tP (envs_of F.ok).1 (envs_of F.ok).2 hk
  rw [do_good he hk]
  have hs1:c.e0 ≠ 10->IntKind.i64.wrap c.e1 = c.e1/\c.e1 < 8:=fun h=>⟨kwr cw.c1 (by have:=w.w1 h; omega),w.w1 h⟩
  have hh1:c.e0 ≠ 10->fAa.has k.caps e c.e1 = true:=fun h=>(has_iff F.ok).2 ⟨he,cw.c1,(hs1 h).2⟩
  have c1:c.e0 = 1\/c.e0 = 2\/c.e0 = 3\/c.e0 = 4\/c.e0 = 5\/c.e0 = 6\/c.e0 = 7\/c.e0 = 8\/c.e0 = 9\/c.e0 = 10\/20 <= c.e0:=by have:=w.kind; omega
  rcases c1 with h | h | h | h | h | h | h | h | h | h | h
  ·have e1:does k e c = errs (alloc k e c.e1):=by unfold does; rw [w0 w,(hs1 (by omega)).1]; simp [h]
   rw [e1]
   have:=mv_alloc F (hh1 (by omega))
   exact ⟨this.1,fun _=>this.2⟩
  ·have h2:=w.w2 (.inl h)
   have h4:=w.w4 (.inl h)
   have e1:does k e c = errs (derive k e c.e1 e c.e2 c.e3):=by unfold does; rw [w0 w,(hs1 (by omega)).1,kwr cw.c2 (by omega),kwr cw.c3 (by omega)]; simp [h]
   rw [e1]
   have:=mv_derive F (r:=c.e3) (hh1 (by omega)) ((has_iff F.ok).2 ⟨he,cw.c2,by omega⟩)
   exact ⟨this.1,fun _=>this.2⟩
  ·have h3:=w.w3 h
   have e1:does k e c = errs (derive k e c.e1 c.e2 c.e3 c.e4):=by
    unfold does; rw [w0 w,(hs1 (by omega)).1,kwr cw.c2 (by have:=(envs_of F.ok).2; omega),kwr cw.c3 (by omega),kwr cw.c4 (by omega)]; simp [h]
   rw [e1]
   have:=mv_derive F (r:=c.e4) (hh1 (by omega)) ((has_iff F.ok (e:=c.e2) (s:=c.e3)).2 ⟨off_iff.2 ⟨cw.c2,h3.1⟩,cw.c3,by omega⟩)
   exact ⟨this.1,fun _=>this.2⟩
  ·rw [does_revoke w cw (.inl h)]
   exact ⟨mv_revoke F (hh1 (by omega)),fun hn=>absurd (.inl h) hn⟩
  ·rw [does_revoke w cw (.inr h)]
   exact ⟨mv_revoke F (hh1 (by omega)),fun hn=>absurd (.inr (.inl h)) hn⟩
  ·have h2:=w.w2 (.inr h)
   have h4:=w.w4 (.inr h)
   have e1:does k e c = errs (maps k e c.e1 c.e2 c.e3):=by unfold does; rw [w0 w,(hs1 (by omega)).1,kwr cw.c2 (by omega),kwr cw.c3 (by omega)]; simp [h]
   rw [e1]
   have:=mv_maps F (pg:=c.e1) (s:=c.e2) (r:=c.e3) he ((has_iff F.ok).2 ⟨he,cw.c2,by omega⟩)
   exact ⟨this.1,fun _=>this.2⟩
  ·have e1:does k e c = errs (remove k e c.e1):=by unfold does; rw [w0 w,(hs1 (by omega)).1]; simp [h]
   rw [e1]
   exact ⟨mv_remove F he,fun hn=>absurd (.inr (.inr (.inl h))) hn⟩
  ·have h5:=w.w5 h
   have e1:does k e c = errs (protect k e c.e1 c.e2):=by unfold does; rw [w0 w,(hs1 (by omega)).1,kwr cw.c2 (by omega)]; simp [h]
   rw [e1]
   exact ⟨mv_protect F he,fun hn=>absurd (.inr (.inr (.inr h))) hn⟩
  ·have e1:does k e c = (sleep k e c,k):=by unfold does; rw [w0 w]; simp [h]
   rw [e1]; exact ⟨.refl F,fun _=>.refl k⟩
  ·have e1:does k e c = ((⟨0,0⟩,true),k):=by unfold does; rw [w0 w]; simp [h]
   rw [e1]; exact ⟨.refl F,fun _=>.refl k⟩
  ·have e1:does k e c = (((user k e c).1,true),(user k e c).2):=by
    unfold does; rw [w0 w]
    rw [if_neg (by omega),if_neg (by omega),if_neg (by omega),if_neg (by omega),if_neg (by omega),if_neg (by omega),if_neg (by omega),if_neg (by omega),if_neg (by omega),if_neg (by omega)]
   rw [e1]
   have:=mv_user F e c
   exact ⟨this.1,fun _=>this.2⟩
end PK
end
section
open Go Mb
theorem mid_eq (lo hi:Nat) (h:lo + hi < 2 ^ 62):IntKind.i64.wrap (Int.fdiv (IntKind.u64.wrap (IntKind.i64.wrap ((lo:Int) + (hi:Int)))) (2 ^ (min (Int.toNat 1) (IntKind.bits .u64)))) = (((lo + hi) / 2:Nat):Int):=by
 have e0:IntKind.i64.wrap ((lo:Int) + (hi:Int)) = ((lo + hi:Nat):Int):=by rw [bM (by omega) (by omega)]; rfl
 have e1:IntKind.u64.wrap ((lo + hi:Nat):Int) = ((lo + hi:Nat):Int):=by
  simp only [IntKind.wrap]; first | omega | (simp [IntKind.bits,IntKind.signed]; omega)
 have e2:(2:Int) ^ (min (Int.toNat 1) (IntKind.bits .u64)) = 2:=by decide
 rw [e0,e1,e2,Int.fdiv_eq_ediv_of_nonneg _ (by decide)]
 have e3:((lo + hi:Nat):Int) / 2 = (((lo + hi) / 2:Nat):Int):=by omega
 rw [e3,bM (by omega) (by omega)]
structure PlaceIn (xs:List Int) (a:Int) (i:Nat):Prop where
 le:i <= xs.length
 lo:∀ k (h:k < xs.length),k < i->xs[k] < a
 hi:∀ k (h:k < xs.length),i <= k->a <= xs[k]
theorem less_eq (x y:Int):ig x y = decide (x < y):=by
 unfold ig
 simp [dr]
theorem sp_BinarySearch (s:Sl) (xs:List Int) (a:Int) (hb:xs.length < 2 ^ 60) (hs:∀ i j (hi:i < xs.length) (hj:j < xs.length),i < j->xs[i] <= xs[j]) :
  Sp prog eL [sv s,.int .u64 a] bL [vU s xs] (fun r=>pa_ (∃ i,PlaceIn xs a i/\r = ((i:Int),decide (xs[i]? = some a))) [vU s xs]):=by
 intro h s0
 have hl:=(cj (j:=0) s0 rfl).1
 refine lT _ _ ?_
 unfold gI
 refine Lp.intro (fun (z:Int × Int) h=>∃ lo hi:Nat,z = ((lo:Int),(hi:Int))/\lo <= hi/\hi <= xs.length/\(∀ k (h:k < xs.length),k < lo->xs[k] < a)/\(∀ k (h:k < xs.length),hi <= k->a <= xs[k])/\aF [vU s xs] h) (fun (z:Int × Int) _=>(z.2 - z.1).toNat)
  ⟨0,xs.length,by rw [hl]; rfl,Nat.zero_le _,Nat.le_refl _,fun k h h'=>by omega,fun k h h'=>by omega,s0⟩ ?_
 rintro z h ⟨lo,hi,rfl,h1,h2,h3,h4,s1⟩
 unfold eD
 refine aY (fun k=>?_) (fun k=>?_)
 ·have hlt:lo < hi:=by have:=of_decide_eq_true k; simp at this; exact this
  have hm:=mid_eq lo hi (by omega)
  simp only [hm]
  have hml:(lo + hi) / 2 < xs.length:=by omega
  refine dy s1 (j:=0) rfl (by omega) (by omega) fun q hq=>?_
  refine eB (j:=0) (i:=(lo + hi) / 2) (k:=0) xs[(lo + hi) / 2] (dh _) s1 rfl hq (by rw [Int.toNat_natCast]; rfl) (aH hml) (by simp) ?_
  rw [less_eq]
  refine aY (fun k2=>?_) (fun k2=>?_)
  ·have k2':xs[(lo + hi) / 2] < a:=by simpa using k2
   have hw:IntKind.i64.wrap ((((lo + hi) / 2:Nat):Int) + 1) = (((lo + hi) / 2 + 1:Nat):Int):=by rw [bM (by omega) (by omega)]; rfl
   rw [hw]
   refine ⟨⟨(lo + hi) / 2 + 1,hi,rfl,by omega,h2,fun k hk hk'=>?_,h4,s1⟩,?_⟩
   ·by_cases e:k = (lo + hi) / 2
    ·subst e; exact k2'
    ·have:=hs k _ hk hml (by omega); omega
   ·show ((hi:Int) - (((lo + hi) / 2 + 1:Nat):Int)).toNat < ((hi:Int) - (lo:Int)).toNat
    omega
  ·have k2':¬ xs[(lo + hi) / 2] < a:=by simpa using k2
   refine ⟨⟨lo,(lo + hi) / 2,rfl,by omega,by omega,h3,fun k hk hk'=>?_,s1⟩,?_⟩
   ·by_cases e:k = (lo + hi) / 2
    ·subst e; omega
    ·have:=hs _ k hml hk (by omega); omega
   ·show ((((lo + hi) / 2:Nat):Int) - (lo:Int)).toNat < ((hi:Int) - (lo:Int)).toNat
    omega
 ·have hlt:lo = hi:=by have:=of_decide_eq_false k; simp at this; omega
  subst hlt
  have hp:PlaceIn xs a lo:=⟨h2,h3,h4⟩
  refine aY (fun k2=>?_) (fun k2=>?_)
  ·have hlt:lo < xs.length:=by rw [hl] at k2; simpa using k2
   refine dy s1 (j:=0) rfl (by omega) (by show (lo:Int) < _; omega) fun q hq=>?_
   refine eB (j:=0) (i:=lo) (k:=0) xs[lo] (dh _) s1 rfl hq (by simp) (aH hlt) (by simp) ?_
   refine aY (fun k3=>?_) (fun k3=>?_)
   ·have k3':¬ xs[lo] = a:=by simpa using k3
    refine eB (j:=0) (i:=lo) (k:=0) xs[lo] (dh _) s1 rfl hq (by simp) (aH hlt) (by simp) ?_
    exact aX ⟨lo,hp,by simp [dD,hlt,k3']⟩ s1
   ·have k3':xs[lo] = a:=by simpa using k3
    exact aX ⟨lo,hp,by simp [hlt,k3']⟩ s1
  ·have hlt:¬ lo < xs.length:=by rw [hl] at k2; simpa using k2
   exact aX ⟨lo,hp,by simp [List.getElem?_eq_none (Nat.le_of_not_lt hlt)]⟩ s1
def sub (m:Nat) (s:Sl) (lo hi:Nat):Sl:=⟨if s.cap = lo then s.a else s.a.map (fun q=>(q.1,q.2 + lo * m)),hi - lo,s.cap - lo,none⟩
theorem pa_map (p:Ptr) (n:Nat):(pa p).map (·.add n) = pa (p.map fun q=>(q.1,q.2 + n)):=by
 cases p with
 | none=>rfl
 | some q=>simp [pa,add_plain]
theorem slice_raw {P:Program} {h:Hp} {S T m bys:Nat} {z:List Value} {s:Sl} {lo hi:Nat} {vlo vhi:Option Value} {R:Sl->Value} {K:Sl->Hp->Prop} (E:El P S T m bys z) (hR:R = sv)
  (hlo:vlo = some (.int .i64 lo)\/vlo = none/\lo = 0) (hhi:vhi = some (.int .i64 hi)\/vhi = none/\hi = s.len) (h1:lo <= hi) (h2:hi <= s.cap) (k:K (sub m s lo hi) h):hpv P (Instr.sliceAt S (sv s) vlo vhi none) R K h:=by
 subst hR
 refine ⟨?_⟩
 obtain ⟨inf,hinf,e1,e2,e3⟩:=E.inf
 unfold Instr.sliceAt
 refine bX (cJ E.sl ?_)
 show hp P (Instr.slice S (sv s) _ _ _) _ _
 unfold Instr.slice
 refine bX (cJ E.sl ?_)
 simp only [sv]
 refine bX ?_
 unfold Instr.sliceBounds
 have fin:∀ hh:Hp,hh = h->hp P (do let size ← sizeOf T; pure (Value.slice (if s.cap = lo then pa s.a else (pa s.a).map (·.add (lo * size))) (hi - lo) (s.cap - lo))) (fun v h'=>∃ r,v = sv r/\K r h') hh:=by
  rintro _ rfl
  refine bX (nU hinf ?_)
  rw [e1]
  refine ⟨sub m s lo hi,?_,k⟩
  unfold sub sv
  split
  ·rfl
  ·rw [pa_map]
 rcases hhi with rfl | ⟨rfl,rfl⟩
 ·refine bX (bX (bX ?_))
  unfold Instr.sliceBound
  refine bX (tq ?_)
  refine hp_yes ⟨by omega,by omega⟩ ?_
  rcases hlo with rfl | ⟨rfl,rfl⟩
  ·refine bX (bX (tq ?_))
   refine hp_yes ⟨by omega,by omega⟩ ?_
   exact fin h rfl
  ·exact fin h rfl
 ·refine bX (bX ?_)
  rcases hlo with rfl | ⟨rfl,rfl⟩
  ·refine bX ?_
   unfold Instr.sliceBound
   refine bX (tq ?_)
   refine hp_yes ⟨by omega,by omega⟩ ?_
   exact fin h rfl
  ·exact fin h rfl
end
section
open Go Mb
set_option linter.unusedVariables false
def sh_mail_Mail_is (a0:Ptr) (a1:Int) (K:Bool->Hp->Prop):Hp->Prop:=br ((!a0.isNone) && (decide (a1 >= 0))) ( nn a0 fun q14=>ld (q14.1,q14.2 + 0) cS fun x16=>K (decide (a1 < (x16.len:Int)))) ( K false)
theorem sim_mail_Mail_is (a0:Ptr) (a1:Int) {K:Bool->Hp->Prop} {h:Hp} (H:sh_mail_Mail_is a0 a1 K h):Ct prog lE #[(pv a0),(.int .i64 a1)] h fun v h'=>∃ r,v = aC r/\K r h':=ay [(pv a0),(.int .i64 a1)] func168 c c c fun _=>M<|O c<|M<|J c<|p (v_pneT underlying105 c)<|J c<|V c c (aB _) (fun g1=>wv<|ah c)<|V c c (aB _) (fun g2=>wv<|jJ (aD c g2) c)<|p (bT c c)<|J c<|V c c (aB _) (fun g3=>wv<|ah c)<|V c c (aB _) (fun g4=>wv<|ah c)<|bS H (fun k6 H7=>bG H7 fun q14 e8 H9=>F (D k6)<|R (aJ<|aN (aD c k6)<|ar e8)<|F (D k6)<|R (ae mj c)<|F (D k6)<|aW H9 lm c (fun _=>c) c fun x16 H10=>F (D k6)<|R (dz c underlying163 c)<|F (D k6)<|R (cx (aD c k6) c)<|p (aT c k6 c)<|O c<|aj<|Y ⟨decide (a1 < (x16.len:Int)),c,H10⟩) fun k6 H7=>W (aU k6)<|W (aU k6)<|W (aU k6)<|W (aU k6)<|W (aU k6)<|p (aq c k6 c)<|O c<|aj<|Y ⟨false,c,H7⟩
def ub (a0:Ptr) (a1:Int) (a2:Int) (a3:Int) (K:Bool->Hp->Prop):Hp->Prop:=cl prog lE [(pv a0),(.int .i64 a1)] aC fun r13=>br (!(!r13)) ( cl prog lE [(pv a0),(.int .i64 a2)] aC fun r18=>br ((!r18) || (a1 == a2)) ( K false) ( nn a0 fun q28=>ld (q28.1,q28.2 + 0) cS fun x30=>ix x30 a2 fun q32=>ld (q32.1,q32.2 + Int.toNat a2 * 1) cS fun x33=>cl prog eL [(sv x33),(.int .u64 a3)] bL fun r35=>br (!r35.2) ( ld (q28.1,q28.2 + 0) cS fun x48=>ix x48 a2 fun q50=>ld (q50.1,q50.2 + Int.toNat a2 * 1) cS fun x51=>both ( ld (q28.1,q28.2 + 0) cS fun x43=>hpv prog (Instr.buildSlice be 1 #[(0,(.int .u64 a3))]) cg fun (v54:Sl)=>cl prog dA [(sv x51),(.int .i64 r35.1),(sv v54)] cg fun r55=>ix x43 a2 fun q56=>st (q56.1,q56.2 + Int.toNat a2 * 1) [sv r55]<|K true) ( hpv prog (Instr.buildSlice be 1 #[(0,(.int .u64 a3))]) cg fun (v54:Sl)=>both ( ld (q28.1,q28.2 + 0) cS fun x43=>cl prog dA [(sv x51),(.int .i64 r35.1),(sv v54)] cg fun r55=>ix x43 a2 fun q56=>st (q56.1,q56.2 + Int.toNat a2 * 1) [sv r55]<|K true) ( cl prog dA [(sv x51),(.int .i64 r35.1),(sv v54)] cg fun r55=>ld (q28.1,q28.2 + 0) cS fun x43=>ix x43 a2 fun q56=>st (q56.1,q56.2 + Int.toNat a2 * 1) [sv r55]<|K true))) ( K true))) ( K false)
theorem sim_mail_Mail_Send (a0:Ptr) (a1:Int) (a2:Int) (a3:Int) {K:Bool->Hp->Prop} {h:Hp} (H:ub a0 a1 a2 a3 K h):Ct prog qc #[(pv a0),(.int .i64 a1),(.int .i64 a2),(.int .u64 a3)] h fun v h'=>∃ r,v = aC r/\K r h':=ay [(pv a0),(.int .i64 a1),(.int .i64 a2),(.int .u64 a3)] func120 c c c fun _=>M<|O c<|al<|M<|J c<|J c<|aa<|Z H en_168 fun r13 _ H1=>p (cr c)<|J c<|V c c (aL _) (fun g2=>wv<|ah c)<|V c c (aL _) (fun g3=>wv<|ah c)<|bS H1 (fun k5 H6=>F (D<|bW k5)<|fZ H6 en_168 (aS (aD c k5)<|aS (aD c k5) bR) c fun r18 _ H7=>F (D<|bW k5)<|R (cr c)<|p (aq c (bW k5) c)<|J c<|V c c (aL _) (fun g8=>wv<|ah c)<|V c c (aL _) (fun g9=>wv<|ah c)<|V c c (aL _) (fun g10=>wv<|bQ (aD c g10)<|aD c g10)<|p (dp c c)<|ad<|aw c H7 (fun k11 H12=>M<|O c<|aj<|Y ⟨false,c,H12⟩) fun k11 H12=>ao<|al<|M<|J c<|bG H12 fun q28 e13 H14=>p (aJ<|aN c<|ar e13)<|p (ae mj c)<|aa<|aW H14 lm c (fun _=>c) c fun x30 H15=>J c<|cm H15 fun q32 e16 h17 H18=>p (bq lS (aN c<|bb e16) c h17)<|aa<|aW H18 sc_93 c (fun _=>c) c fun x33 H19=>J c<|aa<|Z H19 en_169 fun r35 _ H20=>J c<|p (ak c c)<|p (ak c c)<|p (au c)<|O c<|M<|J c<|p (cr c)<|ad<|aw c H20 (fun k21 H22=>bn (n:=18) [] cu c .slnil<|U 0 c (ah<|aN c<|ar e13)<|U 1 c (aJ c)<|U 2 c (ae mj c)<|U 4 c (ah c)<|U 5 c (ah<|aN c<|ar e13)<|U 6 c (aJ c)<|U 7 c (ae mj c)<|U 9 c (ah c)<|U 12 c (ah c)<|U 13 c (ah c)<|bI (i:=8) (fun _ _ _ _ hh=>hh) H22 c (by kernel_rfl) lm c (fun _=>c) c fun x48 H23=>gn H23 fun q50 e24 h25 H26=>U 10 c (bq lS (aN c<|bb e24) c h25)<|bI (i:=11) (fun _ _ _ _ hh=>hh) H26 c (by kernel_rfl) sc_93 c (fun _=>c) c fun x51 H27=>jD H27 fun H28_1 H28_2=>jE (i:=3) (j:=14) (by kernel_rfl) (cF c c<|aW H28_1 lm c (fun _=>c) c fun x43 H29=>⟨.slnil,G 14 c<|aR H29 (bw (vs:=[(.int .u64 a3)]) c) c fun v54 _ H30=>⟨.slnil,G 15 c<|Z H30 en_170 fun r55 _ H31=>⟨.slnil,gn H31 fun q56 e32 h33 H34=>U 16 c (bq lS (aN c<|bb e32) c h33)<|G 17 c<|dw inf_93 c c c c c H34 fun _ H35=>⟨.slnil,aV (by kernel_rfl)<|M<|O c<|aj<|Y ⟨true,c,H35⟩⟩⟩⟩⟩)<|cF c c<|aR H28_2 (bw (vs:=[(.int .u64 a3)]) c) c fun v54 _ H29=>⟨.slnil,jD H29 fun H30_1 H30_2=>jE (i:=3) (j:=15) (by kernel_rfl) (cF c c<|aW H30_1 lm c (fun _=>c) c fun x43 H31=>⟨.slnil,G 15 c<|Z H31 en_170 fun r55 _ H32=>⟨.slnil,gn H32 fun q56 e33 h34 H35=>U 16 c (bq lS (aN c<|bb e33) c h34)<|G 17 c<|dw inf_93 c c c c c H35 fun _ H36=>⟨.slnil,aV (by kernel_rfl)<|M<|O c<|aj<|Y ⟨true,c,H36⟩⟩⟩⟩)<|cF c c<|Z H30_2 en_170 fun r55 _ H31=>⟨.slnil,bI (i:=3) (fun _ _ _ _ hh=>hh) H31 c (by kernel_rfl) lm c (fun _=>c) c fun x43 H32=>gn H32 fun q56 e33 h34 H35=>U 16 c (bq lS (aN c<|bb e33) c h34)<|G 17 c<|dw inf_93 c c c c c H35 fun _ H36=>⟨.slnil,aV (by kernel_rfl)<|M<|O c<|aj<|Y ⟨true,c,H36⟩⟩⟩⟩) fun k21 H22=>ao<|M<|O c<|aj<|Y ⟨true,c,H22⟩) fun k5 H6=>W (cf<|bH k5)<|W (cf<|bH k5)<|p (aT c (bH k5) c)<|J c<|W c<|W c<|W c<|p (aT c c c)<|ad<|ke c c<|M<|O c<|aj<|Y ⟨false,c,H6⟩
def qg (a1:Int) (a2:Int) (K:Int->Hp->Prop) (q12:Nat × Nat) (x14:Sl) (Rec7:(Int × Int)->Hp->Prop) (s6:Int × Int):Hp->Prop:=br (decide (s6.2 < (x14.len:Int))) ( cl prog qc [(.pointer (some ⟨q12.1,q12.2,none⟩)),(.int .i64 a1),(.int .i64 s6.2),(.int .u64 a2)] aC fun r23=>br r23 ( Rec7 ((IntKind.i64.wrap (s6.1 + 1)),(IntKind.i64.wrap (s6.2 + 1)))) ( Rec7 (s6.1,(IntKind.i64.wrap (s6.2 + 1))))) ( K s6.1)
def vw (a0:Ptr) (a1:Int) (a2:Int) (K:Int->Hp->Prop):Hp->Prop:=br a0.isNone ( K 0) ( nn a0 fun q12=>ld (q12.1,q12.2 + 0) cS fun x14=>Lp (qg a1 a2 K q12 x14) (0,0))
theorem sim_mail_Mail_All (a0:Ptr) (a1:Int) (a2:Int) {K:Int->Hp->Prop} {h:Hp} (H:vw a0 a1 a2 K h):Ct prog nj #[(pv a0),(.int .i64 a1),(.int .u64 a2)] h fun v h'=>∃ r,v = ee r/\K r h':=ay [(pv a0),(.int .i64 a1),(.int .u64 a2)] func70 c c c fun _=>M<|O c<|al<|M<|J c<|p (cq underlying105 c)<|ad<|aw c H (fun k1 H2=>M<|O c<|aj<|Y ⟨0,c,H2⟩) fun k1 H2=>ao<|M<|O c<|al<|M<|J c<|bG H2 fun q12 e3 H4=>p (aJ<|aN c<|ar e3)<|p (ae mj c)<|aa<|aW H4 lm c (fun _=>c) c fun x14 H5=>p (dz c underlying163 c)<|J c<|ad<|aA<|bE (step:=qg a1 a2 K q12 x14) (fun s6=>[(0,(pv a0)),(1,(.int .i64 a1)),(2,(.int .u64 a2)),(7,(.int .i64 s6.1)),(15,(.int .i64 (x14.len:Int))),(16,(.int .i64 s6.2))]) (fun s6=>[]) H5 (.cons c<|.cons c<|.cons c<|.cons c<|.cons c<|.cons c<|.nil _) .slnil fun Rec7 s6 _ H8=>M<|p (cx c c)<|ad<|al<|aw c H8 (fun k9 H10=>ao<|al<|aA<|M<|J c<|O c<|M<|J (aN c<|ar e3)<|J c<|J c<|J c<|aa<|Z H10 en_120 fun r23 _ H11=>ad<|aw c H11 (fun k12 H13=>ap<|J c<|p (bo c c)<|O c<|ap<|p (bo c c)<|J c<|ad<|cN ((IntKind.i64.wrap (s6.1 + 1)),(IntKind.i64.wrap (s6.2 + 1))) H13 (.cons c<|.cons c<|.cons c<|.cons c<|.cons c<|.cons c<|.nil _) .slnil) fun k12 H13=>ao<|ap<|p (bo c c)<|J c<|ad<|cN (s6.1,(IntKind.i64.wrap (s6.2 + 1))) H13 (.cons c<|.cons c<|.cons c<|.cons c<|.cons c<|.cons c<|.nil _) .slnil) fun k9 H10=>bi<|M<|J c<|O c<|aj<|Y ⟨s6.1,c,H10⟩
def sQ (a0:Ptr) (a1:Int) (K:Int->Hp->Prop):Hp->Prop:=cl prog lE [(pv a0),(.int .i64 a1)] aC fun r7=>br (!r7) ( K 0) ( nn a0 fun q10=>ld (q10.1,q10.2 + 0) cS fun x12=>ix x12 a1 fun q14=>ld (q14.1,q14.2 + Int.toNat a1 * 1) cS fun x15=>K (x15.len:Int))
theorem sim_mail_Mail_Waits (a0:Ptr) (a1:Int) {K:Int->Hp->Prop} {h:Hp} (H:sQ a0 a1 K h):Ct prog kV #[(pv a0),(.int .i64 a1)] h fun v h'=>∃ r,v = ee r/\K r h':=ay [(pv a0),(.int .i64 a1)] func132 c c c fun _=>M<|O c<|al<|M<|J c<|J c<|aa<|Z H en_168 fun r7 _ H1=>p (cr c)<|ad<|aw c H1 (fun k2 H3=>M<|O c<|aj<|Y ⟨0,c,H3⟩) fun k2 H3=>ao<|M<|J c<|bG H3 fun q10 e4 H5=>p (aJ<|aN c<|ar e4)<|p (ae mj c)<|aa<|aW H5 lm c (fun _=>c) c fun x12 H6=>J c<|cm H6 fun q14 e7 h8 H9=>p (bq lS (aN c<|bb e7) c h8)<|aa<|aW H9 sc_93 c (fun _=>c) c fun x15 H10=>p (dz c underlying93 c)<|O c<|aj<|Y ⟨(x15.len:Int),c,H10⟩
def ua (a0:Ptr) (a1:Int) (K:(Int × Bool)->Hp->Prop):Hp->Prop:=cl prog kV [(pv a0),(.int .i64 a1)] ee fun r9=>br (r9 == 0) ( K (0,false)) ( nn a0 fun q12=>ld (q12.1,q12.2 + 0) cS fun x14=>ix x14 a1 fun q16=>ld (q16.1,q16.2 + Int.toNat a1 * 1) cS fun x17=>ix x17 0 fun q18=>ld (q18.1,q18.2 + Int.toNat 0 * 1) (cI .u64) fun x19=>ld (q12.1,q12.2 + 0) cS fun x28=>ix x28 a1 fun q30=>ld (q30.1,q30.2 + Int.toNat a1 * 1) cS fun x31=>both ( ld (q12.1,q12.2 + 0) cS fun x23=>hpv prog (Instr.sliceAt be (sv x31) (some (.int .i64 1)) none none) cg fun (v32:Sl)=>ix x23 a1 fun q33=>st (q33.1,q33.2 + Int.toNat a1 * 1) [sv v32]<|K (x19,true)) ( hpv prog (Instr.sliceAt be (sv x31) (some (.int .i64 1)) none none) cg fun (v32:Sl)=>ld (q12.1,q12.2 + 0) cS fun x23=>ix x23 a1 fun q33=>st (q33.1,q33.2 + Int.toNat a1 * 1) [sv v32]<|K (x19,true)))
theorem sim_mail_Mail_Take (a0:Ptr) (a1:Int) {K:(Int × Bool)->Hp->Prop} {h:Hp} (H:ua a0 a1 K h):Ct prog ma #[(pv a0),(.int .i64 a1)] h fun v h'=>∃ r,v = bK r/\K r h':=ay [(pv a0),(.int .i64 a1)] func97 c c c fun _=>M<|p (au c)<|O c<|al<|M<|J c<|J c<|aa<|Z H en_132 fun r9 _ H1=>p (bQ c c)<|ad<|aw c H1 (fun k2 H3=>M<|p (au c)<|O c<|aj<|bv (bN c (cc c)<|cc c) ⟨(0,false),c,H3⟩) fun k2 H3=>ao<|M<|J c<|bG H3 fun q12 e4 H5=>p (aJ<|aN c<|ar e4)<|p (ae mj c)<|aa<|aW H5 lm c (fun _=>c) c fun x14 H6=>J c<|cm H6 fun q16 e7 h8 H9=>p (bq lS (aN c<|bb e7) c h8)<|aa<|aW H9 sc_93 c (fun _=>c) c fun x17 H10=>cm H10 fun q18 e11 h12 H13=>p (bq wE (aN c<|bb e11) c h12)<|aa<|aW H13 cy c (fun _=>c) c fun x19 H14=>O c<|al<|bn (n:=15) [] cu c .slnil<|U 0 c (ah<|aN c<|ar e4)<|U 1 c (aJ c)<|U 2 c (ae mj c)<|U 4 c (ah c)<|U 5 c (ah<|aN c<|ar e4)<|U 6 c (aJ c)<|U 7 c (ae mj c)<|U 9 c (ah c)<|bI (i:=8) (fun _ _ _ _ hh=>hh) H14 c (by kernel_rfl) lm c (fun _=>c) c fun x28 H15=>gn H15 fun q30 e16 h17 H18=>U 10 c (bq lS (aN c<|bb e16) c h17)<|bI (i:=11) (fun _ _ _ _ hh=>hh) H18 c (by kernel_rfl) sc_93 c (fun _=>c) c fun x31 H19=>jD H19 fun H20_1 H20_2=>jE (i:=3) (j:=12) (by kernel_rfl) (cF c c<|aW H20_1 lm c (fun _=>c) c fun x23 H21=>⟨.slnil,G 12 c<|aR H21 (fe c c c c c) c fun v32 _ H22=>⟨.slnil,gn H22 fun q33 e23 h24 H25=>U 13 c (bq lS (aN c<|bb e23) c h24)<|G 14 c<|dw inf_93 c c c c c H25 fun _ H26=>⟨.slnil,aV (by kernel_rfl)<|M<|J c<|p (au c)<|O c<|aj<|bv (bN c (cc c)<|cc c) ⟨(x19,true),c,H26⟩⟩⟩⟩)<|cF c c<|aR H20_2 (fe c c c c c) c fun v32 _ H21=>⟨.slnil,bI (i:=3) (fun _ _ _ _ hh=>hh) H21 c (by kernel_rfl) lm c (fun _=>c) c fun x23 H22=>gn H22 fun q33 e23 h24 H25=>U 13 c (bq lS (aN c<|bb e23) c h24)<|G 14 c<|dw inf_93 c c c c c H25 fun _ H26=>⟨.slnil,aV (by kernel_rfl)<|M<|J c<|p (au c)<|O c<|aj<|bv (bN c (cc c)<|cc c) ⟨(x19,true),c,H26⟩⟩⟩
def sh_mail_New (a0:Int) (K:Ptr->Hp->Prop):Hp->Prop:=br ((decide (a0 < 1)) || (decide (a0 > 8))) ( K none) ( hpv prog (Instr.makeSlice pX (.int .i64 a0) (.int .i64 a0)) R_SSuint64 fun (v10:Sl)=>nw lh (nZ.C (⟨v10⟩:nZ)) fun b12=>K (some (b12,0)))
theorem sim_mail_New (a0:Int) {K:Ptr->Hp->Prop} {h:Hp} (H:sh_mail_New a0 K h):Ct prog th #[(.int .i64 a0)] h fun v h'=>∃ r,v = pj r/\K r h':=ay [(.int .i64 a0)] func57 c c c fun _=>M<|O c<|al<|M<|J c<|p (cx c c)<|J c<|V c c (aL _) (fun g1=>wv<|ah c)<|V c c (aL _) (fun g2=>wv<|qB (aD c g2) c)<|p (dp c c)<|ad<|aw c H (fun k3 H4=>M<|O c<|aj<|Y ⟨none,c,H4⟩) fun k3 H4=>ao<|M<|J c<|aa<|aR H4 (jK c c) c fun v10 _ H5=>p (ba c<|build_165_0 v10)<|aa<|hY c c c H5 fun b12 _ H6=>O c<|aj<|Y ⟨some (b12,0),c,H6⟩
end
section
open Go Mb
theorem uN (s y:Sl) (xs:List Int) (a:Int) (hl:xs.length < 2 ^ 40) :
  Sp prog dA [sv s,.int .i64 xs.length,sv y] cg [vU s xs,vU y [a]] (fun r=>vU r (xs++[a])):=by
 intro h s0
 have hs:=(cj (j:=0) s0 rfl).1
 have hy:=(cj (j:=1) s0 rfl).1
 have hcap:s.len <= s.cap:=star_fact (i:=0) rfl (fun _ hv=>hv.2.1) s0
 refine pu _ _ _ ?_
 unfold jw
 refine slice_raw (lo:=xs.length) (hi:=s.len) fX rfl (.inl rfl) (.inr ⟨rfl,rfl⟩) (by omega) hcap ?_
 refine dn (by rw [hy]; rfl) ?_
 refine dL (by rw [hs]; simp) ?_
 refine tH (τ:=Int) (i:=0) (j:=1) (enc:=cI .u64) (ys:=[a]) fX fX.sl (dh _) (oneI _) s0 rfl rfl (by omega) (by simp; omega) (by simp; omega) fun v h2 s2=>?_
 obtain ⟨h3,h4,d,rfl,a2,_⟩:=s2
 obtain ⟨e1,e2,e3⟩:=a2
 refine ⟨e1,e2,?_⟩
 rcases e3 with e3 | ⟨b,pre,rest,U,fr,f1,f2,fg,f3⟩
 ·exact .inl e3
 ·exact .inr ⟨b,pre,rest,U,fr,f1,f2,fg,un_left f3⟩
def jk (x:Ptr) (bs:List (List Int)):As:=fun h=>∃ z:Nat × Sl × List Sl,(x = some (z.1,0)/\z.2.2.length = bs.length/\bs.length <= 8)/\aF [blk z.1 lh [sv z.2.1],vec be 1 cS z.2.1 z.2.2,all vU z.2.2 bs] h
theorem mail_op {x:Ptr} {bs:List (List Int)} {l:List As} {h:Hp} (s0:aF (jk x bs::l) h):∃ b s ss,x = some (b,0)/\ss.length = bs.length/\bs.length <= 8/\s.len = bs.length/\aF (blk b lh [sv s]::vec be 1 cS s ss::all vU ss bs::l) h:=by
 obtain ⟨⟨b,s,ss⟩,⟨hx,h1,h2⟩,st⟩:=op_ s0
 exact ⟨b,s,ss,hx,h1,h2,(cj (j:=1) st rfl).1.trans h1,st⟩
theorem mail_cl {b:Nat} {s:Sl} {ss:List Sl} {bs:List (List Int)} {l:List As} {h:Hp} (h1:ss.length = bs.length) (h2:bs.length <= 8) (st:aF (blk b lh [sv s]::vec be 1 cS s ss::all vU ss bs::l) h):aF (jk (some (b,0)) bs::l) h :=
 cl_ (m:=fun z:Nat × Sl × List Sl=>[blk z.1 lh [sv z.2.1],vec be 1 cS z.2.1 z.2.2,all vU z.2.2 bs]) (b,s,ss) ⟨rfl,h1,h2⟩ st
namespace Mail
abbrev S:=List (List Int)
def has (bs:S) (c:Int):Bool:=decide (0 <= c/\c < bs.length)
def box (bs:S) (c:Int):List Int:=bs.getD c.toNat []
def send (bs:S) (f t e:Int):Bool × S:=if has bs f = true/\has bs t = true/\f ≠ t then (true,bs.set t.toNat (box bs t++[e])) else (false,bs)
def sends (bs:S) (f e:Int):Nat->Int × S
 | 0=>(0,bs)
 | n + 1=>if (send (sends bs f e n).2 f n e).1 then ((sends bs f e n).1 + 1,(send (sends bs f e n).2 f n e).2) else ((sends bs f e n).1,(send (sends bs f e n).2 f n e).2)
def waits (bs:S) (c:Int):Int:=if has bs c then (box bs c).length else 0
def take (bs:S) (c:Int):(Int × Bool) × S:=if waits bs c = 0 then ((0,false),bs) else (((box bs c).getD 0 0,true),bs.set c.toNat ((box bs c).drop 1))
structure Fit (l:List Int) (e:Int):Prop where
 lt:∀ x ∈ l,x < e
 up:l.Pairwise (· < ·)
 len:l.length < 2 ^ 40
theorem send_len (bs:S) (f t e:Int):(send bs f t e).2.length = bs.length:=by unfold send; split <;> simp
theorem sends_len (bs:S) (f e:Int):∀ n,(sends bs f e n).2.length = bs.length
 | 0=>rfl
 | n + 1=>by unfold sends; split <;> simp only [send_len,sends_len bs f e n]
theorem send_other (bs:S) (f e:Int) (n m:Nat) (h:n ≠ m):(send bs f n e).2[m]? = bs[m]?:=by
 unfold send; split
 ·simp only [Int.toNat_natCast]; rw [List.getElem?_set_ne h]
 ·rfl
theorem sends_ge (bs:S) (f e:Int):∀ n m,n <= m->(sends bs f e n).2[m]? = bs[m]?
 | 0,_,_=>rfl
 | n + 1,m,h=>by unfold sends; split <;> simp only <;> rw [send_other _ _ _ _ _ (by omega),sends_ge bs f e n m (by omega)]
end Mail
theorem nils:∀ (n:Nat) {l:List As} {h:Hp},aF l h->aF (all vU (List.replicate n (⟨none,0,0,none⟩:Sl)) (List.replicate n ([]:List Int))::l) h
 | 0,_,_,s=>all_nil s
 | n + 1,l,h,s=>by
  have s1:=fN (τ:=Int) (T:=t_uint64) (m:=1) (enc:=cI .u64) (nils n s)
  rw [List.replicate_succ,List.replicate_succ]
  obtain ⟨h1,h2,d,e,a,h3,h4,d2,e2,b,s'⟩:=s1
  subst e2
  obtain ⟨d3,d4⟩:=Dj.of_un_right d
  exact ⟨un h1 h3,h4,Dj.un_left d4 d2,by rw [e,mM],⟨h1,h3,d3,rfl,a,b⟩,s'⟩
theorem sp_mail_New (n:Int) (h1:¬ n < 1) (h2:¬ n > 8):Sp prog th [.int .i64 n] pj [] (fun r=>aF [jk r (List.replicate n.toNat [])]):=by
 intro h st
 refine sim_mail_New _ ?_
 unfold sh_mail_New
 obtain ⟨m,rfl⟩:=Int.eq_ofNat_of_zero_le (show 0 <= n by omega)
 refine dn (by simp; omega) ?_
 refine nS (τ:=Sl) (x0:=⟨none,0,0,none⟩) (enc:=cS) (n:=m) (T:=be) (m:=1) uE rfl st ?_ ?_ ?_
 ·omega
 ·omega
 ·intro v h' s1
  have s2:=nils m s1
  refine pw s2 fun b h'' s3=>?_
  exact mail_cl (by simp) (by simp; omega) (bd [0,1] s3 rfl)
theorem sp_mail_is (x:Ptr) (bs:Mail.S) (c:Int):Sp prog lE [pv x,.int .i64 c] aC [jk x bs] (fun r=>pa_ (r = Mail.has bs c) [jk x bs]):=by
 intro h s0
 obtain ⟨b,s,ss,rfl,hss,hb,hs,st⟩:=mail_op s0
 refine sim_mail_Mail_is _ _ ?_
 unfold sh_mail_Mail_is
 refine aY (fun k=>?_) (fun k=>?_)
 ·have k':0 <= c:=by simpa using k
  refine cD (bk s st (i:=0) rfl rfl rfl ?_)
  exact aX (by simp [Mail.has,k',hs]) s0
 ·have k':¬ 0 <= c:=by simpa using k
  exact aX (by simp [Mail.has]; intro h; exact absurd h k') s0
theorem has_nat {bs:Mail.S} {c:Int} (h:Mail.has bs c = true):∃ n:Nat,c = n/\n < bs.length:=by
 unfold Mail.has at h
 have:=of_decide_eq_true h
 exact ⟨c.toNat,by omega,by omega⟩
theorem place_end {l:List Int} {e:Int} (f:Mail.Fit l e) {i:Nat} (p:PlaceIn l e i):i = l.length:=by
 rcases Nat.lt_or_ge i l.length with h | h
 ·have h1:=p.hi i h (Nat.le_refl _)
  have h2:=f.lt _ (List.getElem_mem h)
  omega
 ·have:=p.le; omega
theorem sp_mail_Send (x:Ptr) (bs:Mail.S) (f t e:Int) (hf:∀ l,bs[t.toNat]? = some l->Mail.Fit l e):Sp prog qc [pv x,.int .i64 f,.int .i64 t,.int .u64 e] aC [jk x bs] (fun r=>pa_ (r = (Mail.send bs f t e).1) [jk x (Mail.send bs f t e).2]):=by
 intro h s0
 refine sim_mail_Mail_Send _ _ _ _ ?_
 unfold ub
 refine cQ [0] (sp_mail_is x bs f) s0 rfl fun r h1 s1=>?_
 obtain ⟨rfl,s2⟩:=bt.1 s1
 have no:¬ (Mail.has bs f = true/\Mail.has bs t = true/\f ≠ t)->Mail.send bs f t e = (false,bs):=fun hh=>if_neg hh
 refine aY (fun k=>?_) (fun k=>?_)
 ·have k':Mail.has bs f = true:=by simpa using k
  refine cQ [0] (sp_mail_is x bs t) s2 rfl fun r h3 s3=>?_
  obtain ⟨rfl,s4⟩:=bt.1 s3
  refine aY (fun k2=>?_) (fun k2=>?_)
  ·rw [no (by simp at k2; intro hh; rcases k2 with k2 | k2; exact absurd hh.2.1 (by simp [k2]); exact hh.2.2 k2)]
   exact aX rfl s4
  ·have k2':Mail.has bs t = true/\f ≠ t:=by simpa using k2
   obtain ⟨n,rfl,hn⟩:=has_nat k2'.1
   have ed:Mail.send bs f n e = (true,bs.set n (Mail.box bs n++[e])):=if_pos ⟨k',k2'.1,k2'.2⟩
   rw [ed]
   obtain ⟨b,s,ss,rfl,hss,hb,hs,st⟩:=mail_op s4
   have hns:n < ss.length:=by omega
   have hg:Mail.box bs n = bs[n]:=by simp [Mail.box,hn]
   have fit:=hf bs[n] (by rw [Int.toNat_natCast]; exact aH hn)
   refine cD (bk s st (i:=0) rfl rfl rfl ?_)
   refine dy st (j:=1) rfl (by omega) (by omega) fun q hq=>?_
   refine eB (j:=1) (i:=n) (k:=0) ss[n] rx st rfl hq (by simp) (aH hns) (by simp) ?_
   have st1:=js (aH hns) (aH hn) (bd [2] st rfl)
   refine cQ [0] (sp_BinarySearch ss[n] bs[n] e (by have:=fit.len; omega) (fun i j hi hj hij=>Int.le_of_lt (List.pairwise_iff_getElem.1 fit.up i j hi hj hij))) st1 rfl fun r h5 s5=>?_
   obtain ⟨⟨i,pi,hr⟩,s6⟩:=bt.1 s5
   have hi:=place_end fit pi
   subst hi
   have hr2:r.2 = false:=by rw [hr]; simp
   refine dL (by rw [hr2]; rfl) ?_
   refine bk s s6 (i:=2) rfl rfl rfl ?_
   refine dy s6 (j:=3) rfl (by omega) (by omega) fun q2 hq2=>?_
   refine eB (j:=3) (i:=n) (k:=0) ss[n] rx s6 rfl hq2 (by simp) (aH hns) (by simp) ?_
   have fin:∀ (r55:Sl) (v54:Sl) (h:Hp),aF [vU r55 (bs[n]++[e]),but vU ss bs n,blk b lh [sv s],vec be 1 cS s ss] h ->
     ix s n (fun q56=>Mb.st (q56.1,q56.2 + Int.toNat n * 1) [sv r55]<|pa_ (true = true) [jk (some (b,0)) (bs.set n (bs[n]++[e]))]) h:=by
    intro r55 v54 h s7
    refine dy s7 (j:=3) rfl (by omega) (by omega) fun q3 hq3=>?_
    refine st_v (j:=3) (i:=n) (k:=0) r55 rx s7 rfl hq3 (by simp) (aH hns) (by simp) rfl fun h8 s8=>?_
    have s9:=all_in2 (y:=bs[n]++[e]) hn hss s8
    exact aX rfl (mail_cl (by simpa using hss) (by simpa using hb) (bd [1,1] s9 rfl))
   rw [hg,hr]
   refine ⟨?_,?_⟩
   ·refine bk s s6 (i:=2) rfl rfl rfl ?_
    refine fy (τ:=Int) [e] (val:=fun x=>.int .u64 x) (enc:=cI .u64) fX (dh _) (fun _=>rfl) s6 rfl rfl (by simp) fun y h' s7=>?_
    refine cQ [1,0] (uN ss[n] y bs[n] e fit.len) s7 rfl fun r h8 s8=>?_
    exact fin r y h8 s8
   ·refine fy (τ:=Int) [e] (val:=fun x=>.int .u64 x) (enc:=cI .u64) fX (dh _) (fun _=>rfl) s6 rfl rfl (by simp) fun y h' s7=>?_
    refine ⟨?_,?_⟩
    ·refine bk s s7 (i:=3) rfl rfl rfl ?_
     refine cQ [1,0] (uN ss[n] y bs[n] e fit.len) s7 rfl fun r h8 s8=>?_
     exact fin r y h8 s8
    ·refine cQ [1,0] (uN ss[n] y bs[n] e fit.len) s7 rfl fun r h8 s8=>?_
     refine bk s s8 (i:=2) rfl rfl rfl ?_
     exact fin r y h8 s8
 ·rw [no (by simp at k; simp [k])]
  exact aX rfl s2
theorem sp_mail_All (x:Ptr) (bs:Mail.S) (f e:Int) (hf:∀ l ∈ bs,Mail.Fit l e):Sp prog nj [pv x,.int .i64 f,.int .u64 e] ee [jk x bs] (fun r=>pa_ (r = (Mail.sends bs f e bs.length).1) [jk x (Mail.sends bs f e bs.length).2]):=by
 intro h s0
 obtain ⟨b,s,ss,rfl,hss,hb,hs,st⟩:=mail_op s0
 refine sim_mail_Mail_All _ _ _ ?_
 unfold vw
 refine dn rfl (cD (bk s st (i:=0) rfl rfl rfl ?_))
 refine Lp.intro (fun (z:Int × Int) h=>∃ n:Nat,z.2 = n/\n <= bs.length/\z.1 = (Mail.sends bs f e n).1/\0 <= z.1/\z.1 <= n/\aF [jk (some (b,0)) (Mail.sends bs f e n).2] h) (fun (z:Int × Int) _=>bs.length - z.2.toNat) ⟨0,rfl,Nat.zero_le _,rfl,Int.le_refl _,Int.le_refl _,s0⟩ ?_
 rintro ⟨z,i⟩ h ⟨n,rfl,hn,hz,hz0,hz1,s1⟩
 simp only at hz hz0 hz1
 unfold qg
 refine aY (fun k=>?_) (fun k=>?_)
 ·have hlt:n < bs.length:=by rw [hs] at k; simpa using k
  have hw:IntKind.i64.wrap ((n:Int) + 1) = ((n + 1:Nat):Int):=by rw [bM (by omega) (by omega)]; rfl
  have hw2:IntKind.i64.wrap (z + 1) = z + 1:=bM (by omega) (by omega)
  refine cQ [0] (sp_mail_Send (some (b,0)) (Mail.sends bs f e n).2 f n e ?_) s1 rfl fun r h2 s2=>?_
  ·intro l hl
   rw [Int.toNat_natCast,Mail.sends_ge bs f e n n (Nat.le_refl _)] at hl
   exact hf l (List.mem_of_getElem? hl)
  obtain ⟨rfl,s3⟩:=bt.1 s2
  refine aY (fun k2=>?_) (fun k2=>?_)
  ·have e1:Mail.sends bs f e (n + 1) = ((Mail.sends bs f e n).1 + 1,(Mail.send (Mail.sends bs f e n).2 f n e).2):=by rw [Mail.sends,if_pos k2]
   rw [hw,hw2]
   refine ⟨⟨n + 1,rfl,hlt,?_,by simp only; omega,by simp only; omega,?_⟩,by simp; omega⟩
   ·rw [e1,hz]
   ·rw [e1]; exact s3
  ·have e1:Mail.sends bs f e (n + 1) = ((Mail.sends bs f e n).1,(Mail.send (Mail.sends bs f e n).2 f n e).2):=by rw [Mail.sends,if_neg (by rw [k2]; exact Bool.false_ne_true)]
   rw [hw]
   refine ⟨⟨n + 1,rfl,hlt,?_,by simp only; omega,by simp only; omega,?_⟩,by simp; omega⟩
   ·rw [e1,hz]
   ·rw [e1]; exact s3
 ·have:n = bs.length:=by rw [hs] at k; simp at k; omega
  subst this
  exact aX hz s1
theorem sp_mail_Waits (x:Ptr) (bs:Mail.S) (c:Int):Sp prog kV [pv x,.int .i64 c] ee [jk x bs] (fun r=>pa_ (r = Mail.waits bs c) [jk x bs]):=by
 intro h s0
 refine sim_mail_Mail_Waits _ _ ?_
 unfold sQ
 refine cQ [0] (sp_mail_is x bs c) s0 rfl fun r h1 s1=>?_
 obtain ⟨rfl,s2⟩:=bt.1 s1
 refine aY (fun k=>?_) (fun k=>?_)
 ·have k':Mail.has bs c = false:=by simpa using k
  exact aX (by simp [Mail.waits,k']) s2
 ·have k':Mail.has bs c = true:=by simpa using k
  obtain ⟨n,rfl,hn⟩:=has_nat k'
  obtain ⟨b,s,ss,rfl,hss,hb,hs,st⟩:=mail_op s2
  have hns:n < ss.length:=by omega
  refine cD (bk s st (i:=0) rfl rfl rfl ?_)
  refine dy st (j:=1) rfl (by omega) (by omega) fun q hq=>?_
  refine eB (j:=1) (i:=n) (k:=0) ss[n] rx st rfl hq (by simp) (aH hns) (by simp) ?_
  have st1:=js (aH hns) (aH hn) (bd [2] st rfl)
  have hl:=(cj (j:=0) st1 rfl).1
  exact aX (by simp [Mail.waits,k',Mail.box,hn,hl]) s2
theorem sp_mail_Take (x:Ptr) (bs:Mail.S) (c:Int):Sp prog ma [pv x,.int .i64 c] bK [jk x bs] (fun r=>pa_ (r = (Mail.take bs c).1) [jk x (Mail.take bs c).2]):=by
 intro h s0
 refine sim_mail_Mail_Take _ _ ?_
 unfold ua
 refine cQ [0] (sp_mail_Waits x bs c) s0 rfl fun r h1 s1=>?_
 obtain ⟨rfl,s2⟩:=bt.1 s1
 refine aY (fun k=>?_) (fun k=>?_)
 ·have k':Mail.waits bs c = 0:=by simpa using k
  have e1:Mail.take bs c = ((0,false),bs):=if_pos k'
  rw [e1]
  exact aX rfl s2
 ·have k':¬ Mail.waits bs c = 0:=by simpa using k
  have e1:Mail.take bs c = (((Mail.box bs c).getD 0 0,true),bs.set c.toNat ((Mail.box bs c).drop 1)):=if_neg k'
  rw [e1]
  have hh:Mail.has bs c = true:=by
   unfold Mail.waits at k'
   cases e:Mail.has bs c with
   | true=>rfl
   | false=>rw [e] at k'; exact absurd rfl k'
  obtain ⟨n,rfl,hn⟩:=has_nat hh
  obtain ⟨b,s,ss,rfl,hss,hb,hs,st⟩:=mail_op s2
  have hns:n < ss.length:=by omega
  have hg:Mail.box bs n = bs[n]:=by simp [Mail.box,hn]
  have h0:0 < bs[n].length:=by
   unfold Mail.waits at k'
   rw [hh,hg] at k'
   simp at k'
   exact List.length_pos_iff.2 k'
  rw [hg]
  refine cD (bk s st (i:=0) rfl rfl rfl ?_)
  refine dy st (j:=1) rfl (by omega) (by omega) fun q hq=>?_
  refine eB (j:=1) (i:=n) (k:=0) ss[n] rx st rfl hq (by simp) (aH hns) (by simp) ?_
  have st1:=js (aH hns) (aH hn) (bd [2] st rfl)
  refine dy st1 (j:=0) rfl (by omega) (by omega) fun q1 hq1=>?_
  refine eB (j:=0) (i:=0) (k:=0) bs[n][0] (dh _) st1 rfl hq1 (by simp) (aH h0) (by simp) ?_
  refine bk s st1 (i:=2) rfl rfl rfl ?_
  refine dy st1 (j:=3) rfl (by omega) (by omega) fun q2 hq2=>?_
  refine eB (j:=3) (i:=n) (k:=0) ss[n] rx st1 rfl hq2 (by simp) (aH hns) (by simp) ?_
  have fin:∀ (v:Sl) (h:Hp),aF [vU v (bs[n].drop 1),but vU ss bs n,blk b lh [sv s],vec be 1 cS s ss] h ->
    ix s n (fun q33=>Mb.st (q33.1,q33.2 + Int.toNat n * 1) [sv v]<|pa_ ((bs[n][0],true) = ((bs[n].getD 0 0,true):Int × Bool)) [jk (some (b,0)) (bs.set n (bs[n].drop 1))]) h:=by
   intro v h s7
   refine dy s7 (j:=3) rfl (by omega) (by omega) fun q3 hq3=>?_
   refine st_v (j:=3) (i:=n) (k:=0) v rx s7 rfl hq3 (by simp) (aH hns) (by simp) rfl fun h8 s8=>?_
   have s9:=all_in2 (y:=bs[n].drop 1) hn hss s8
   exact aX (by simp [h0]) (mail_cl (by simpa using hss) (by simpa using hb) (bd [1,1] s9 rfl))
  refine ⟨?_,?_⟩
  ·refine bk s st1 (i:=2) rfl rfl rfl ?_
   refine sliceFrom_v (i:=0) (n:=1) fX (dh _) rfl st1 rfl h0 fun v s5=>?_
   exact fin v _ s5
  ·refine sliceFrom_v (i:=0) (n:=1) fX (dh _) rfl st1 rfl h0 fun v s5=>?_
   refine bk s s5 (i:=2) rfl rfl rfl ?_
   exact fin v _ s5
end
section
open Go Mb
set_option linter.unusedVariables false
def sU (a0:Ptr) (a1:Int) (K:Bool->Hp->Prop):Hp->Prop:=br ((!a0.isNone) && (decide (a1 >= 0))) ( nn a0 fun q14=>ld (q14.1,q14.2 + 1) cS fun x16=>K (decide (a1 < (x16.len:Int)))) ( K false)
theorem sim_epoch_Epochs_is (a0:Ptr) (a1:Int) {K:Bool->Hp->Prop} {h:Hp} (H:sU a0 a1 K h):Ct prog kY #[(pv a0),(.int .i64 a1)] h fun v h'=>∃ r,v = aC r/\K r h':=ay [(pv a0),(.int .i64 a1)] func118 c c c fun _=>M<|O c<|M<|J c<|p (v_pneT underlying106 c)<|J c<|V c c (aB _) (fun g1=>wv<|ah c)<|V c c (aB _) (fun g2=>wv<|jJ (aD c g2) c)<|p (bT c c)<|J c<|V c c (aB _) (fun g3=>wv<|ah c)<|V c c (aB _) (fun g4=>wv<|ah c)<|bS H (fun k6 H7=>bG H7 fun q14 e8 H9=>F (D k6)<|R (aJ<|aN (aD c k6)<|ar e8)<|F (D k6)<|R (ae fld_167_1 c)<|F (D k6)<|aW H9 sc_93 c (fun _=>c) c fun x16 H10=>F (D k6)<|R (dz c underlying93 c)<|F (D k6)<|R (cx (aD c k6) c)<|p (aT c k6 c)<|O c<|aj<|Y ⟨decide (a1 < (x16.len:Int)),c,H10⟩) fun k6 H7=>W (aU k6)<|W (aU k6)<|W (aU k6)<|W (aU k6)<|W (aU k6)<|p (aq c k6 c)<|O c<|aj<|Y ⟨false,c,H7⟩
def rL (a0:Ptr) (K:Int->Hp->Prop):Hp->Prop:=br a0.isNone ( K 0) ( nn a0 fun q6=>ld (q6.1,q6.2 + 0) cS fun x8=>K (IntKind.u64.wrap (x8.len:Int)))
theorem sim_epoch_Epochs_Now (a0:Ptr) {K:Int->Hp->Prop} {h:Hp} (H:rL a0 K h):Ct prog fV #[(pv a0)] h fun v h'=>∃ r,v = gO r/\K r h':=ay [(pv a0)] func119 c c c fun _=>M<|O c<|al<|M<|J c<|p (cq underlying106 c)<|ad<|aw c H (fun k1 H2=>M<|O c<|aj<|Y ⟨0,c,H2⟩) fun k1 H2=>ao<|M<|J c<|bG H2 fun q6 e3 H4=>p (aJ<|aN c<|ar e3)<|p (ae fld_167_0 c)<|aa<|aW H4 sc_39 c (fun _=>c) c fun x8 H5=>p (dz c underlying39 c)<|p (dT ⟨_,underlying3⟩ underlying22 c)<|O c<|aj<|Y ⟨IntKind.u64.wrap (x8.len:Int),c,H5⟩
def pL (a0:Ptr) (a1:Int) (K:(Int × Bool)->Hp->Prop):Hp->Prop:=cl prog kY [(pv a0),(.int .i64 a1)] aC fun r8=>br (!r8) ( K (0,false)) ( nn a0 fun q12=>ld (q12.1,q12.2 + 0) cS fun x14=>hpv prog (Instr.buildSlice dG 1 #[(0,(.int .i64 a1))]) cC fun (v16:Sl)=>hpv prog (Builtin.append_ #[dG,dG] dG #[(sv x14),(sv v16)]) cC fun (v17:Sl)=>st (q12.1,q12.2 + 0) [sv v17]<|cl prog fV [(.pointer (some ⟨q12.1,q12.2,none⟩))] gO fun r21=>K (r21,true))
theorem wS (a0:Ptr) (a1:Int) {K:(Int × Bool)->Hp->Prop} {h:Hp} (H:pL a0 a1 K h):Ct prog iV #[(pv a0),(.int .i64 a1)] h fun v h'=>∃ r,v = bK r/\K r h':=ay [(pv a0),(.int .i64 a1)] func69 c c c fun _=>M<|p (au c)<|O c<|al<|M<|J c<|J c<|aa<|Z H en_118 fun r8 _ H1=>p (cr c)<|ad<|aw c H1 (fun k2 H3=>M<|p (au c)<|O c<|aj<|bv (bN c (cc c)<|cc c) ⟨(0,false),c,H3⟩) fun k2 H3=>ao<|M<|J c<|J c<|bG H3 fun q12 e4 H5=>p (aJ<|aN c<|ar e4)<|p (ae fld_167_0 c)<|aa<|aW H5 sc_39 c (fun _=>c) c fun x14 H6=>J c<|aa<|aR H6 (bw (vs:=[(.int .i64 a1)]) c) c fun v16 _ H7=>aa<|aR H7 (dE c c) c fun v17 _ H8=>p (aJ<|aN c<|ar e4)<|p (ae fld_167_0 c)<|aa<|dw inf_39 c c c c c H8 fun _ H9=>ad<|M<|J (aN c<|ar e4)<|aa<|Z H9 en_119 fun r21 _ H10=>p (au c)<|O c<|aj<|bv (bN c (cc c)<|cc c) ⟨(r21,true),c,H10⟩
def dq (Rec13:(Sl × Int)->Hp->Prop) (s12:Sl × Int) (s21:Bool):Hp->Prop:=br s21 ( hpv prog (Instr.buildSlice dG 1 #[(0,(.int .i64 s12.2))]) cC fun (v43:Sl)=>hpv prog (Builtin.append_ #[dG,dG] dG #[(sv s12.1),(sv v43)]) cC fun (v44:Sl)=>Rec13 (v44,(IntKind.i64.wrap (s12.2 + 1)))) ( Rec13 (s12.1,(IntKind.i64.wrap (s12.2 + 1))))
def kO (a1:Int) (K:Sl->Hp->Prop) (q17:Nat × Nat) (x19:Sl) (Rec13:(Sl × Int)->Hp->Prop) (s12:Sl × Int):Hp->Prop:=br (decide (s12.2 < (x19.len:Int))) ( ix x19 s12.2 fun q24=>ld (q24.1,q24.2 + Int.toNat s12.2 * 1) (cI .u64) fun x25=>br (decide (x25 < a1)) ( ld (q17.1,q17.2 + 0) cS fun x33=>ix x33 (IntKind.u64.wrap (a1 - 1)) fun q36=>ld (q36.1,q36.2 + Int.toNat (IntKind.u64.wrap (a1 - 1)) * 1) (cI .i64) fun x37=>dq Rec13 s12 (x37 != s12.2)) ( dq Rec13 s12 false)) ( K s12.1)
def pK (a0:Ptr) (a1:Int) (K:Sl->Hp->Prop):Hp->Prop:=br (!(decide (a1 < 1))) ( cl prog fV [(pv a0)] gO fun r13=>br (decide (a1 > r13)) ( K (⟨none,0,0,none⟩:Sl)) ( nn a0 fun q17=>ld (q17.1,q17.2 + 1) cS fun x19=>Lp (kO a1 K q17 x19) ((⟨none,0,0,none⟩:Sl),0))) ( K (⟨none,0,0,none⟩:Sl))
theorem wR (a0:Ptr) (a1:Int) {K:Sl->Hp->Prop} {h:Hp} (H:pK a0 a1 K h):Ct prog iU #[(pv a0),(.int .u64 a1)] h fun v h'=>∃ r,v = cC r/\K r h':=ay [(pv a0),(.int .u64 a1)] func121 c c c fun _=>M<|O c<|al<|M<|J c<|p (cx c c)<|J c<|V c c (aL _) (fun g1=>wv<|ah c)<|V c c (aL _) (fun g2=>wv<|ah c)<|bS H (fun k4 H5=>F (D<|bW k4)<|fZ H5 en_119 (aS (aD c k4) bR) c fun r13 _ H6=>F (D<|bW k4)<|R (qB (aD c k4) c)<|p (aq c (bW k4) c)<|ad<|aw c H6 (fun k7 H8=>M<|O c<|aj<|Y ⟨(⟨none,0,0,none⟩:Sl),c,H8⟩) fun k7 H8=>ao<|M<|O c<|al<|M<|J c<|bG H8 fun q17 e9 H10=>p (aJ<|aN c<|ar e9)<|p (ae fld_167_1 c)<|aa<|aW H10 sc_93 c (fun _=>c) c fun x19 H11=>p (dz c underlying93 c)<|J c<|ad<|aA<|bE (step:=kO a1 K q17 x19) (fun s12=>[(0,(pv a0)),(1,(.int .u64 a1)),(5,(sv s12.1)),(19,(sv x19)),(20,(.int .i64 (x19.len:Int))),(21,(.int .i64 s12.2))]) (fun s12=>[]) H11 (.cons c<|.cons c<|.cons c<|.cons c<|.cons c<|.cons c<|.nil _) .slnil fun Rec13 s12 _ H14=>M<|p (cx c c)<|ad<|al<|aw c H14 (fun k15 H16=>ao<|al<|aA<|M<|J c<|cm H16 fun q24 e17 h18 H19=>p (bq wE (aN c<|bb e17) c h18)<|aa<|aW H19 cy c (fun _=>c) c fun x25 H20=>p (au c)<|O c<|eG (dq Rec13 s12) (fun s21=>[(0,(pv a0)),(1,(.int .u64 a1)),(5,(sv s12.1)),(6,(.int .i64 s12.2)),(19,(sv x19)),(20,(.int .i64 (x19.len:Int))),(21,(.int .i64 s12.2)),(40,(.bool s21))]) (fun s21=>[]) (ap<|J c<|J c<|p (cx c c)<|J c<|V c c (aB _) (fun g27=>wv<|ah<|aN c<|ar e9)<|V c c (aB _) (fun g28=>wv<|aJ<|aD c g28)<|V c c (aB _) (fun g29=>wv<|ae fld_167_0<|aD c g29)<|bS H20 (fun k31 H32=>F (D k31)<|aW H32 sc_39 (aD c k31) (fun _=>c) c fun x33 H33=>F (D k31)<|R (ah c)<|F (D k31)<|R (v_sub c c)<|cm H33 fun q36 e34 h35 H36=>F (D k31)<|R (bq ia (aN c<|bb e34) c h35)<|F (D k31)<|aW H36 aZ c (fun _=>c) c fun x37 H37=>F (D k31)<|R (ah c)<|F (D k31)<|R (pt c c)<|p (aT c k31 c)<|ad<|cM (x37 != s12.2) H37 (.cons c<|.cons c<|.cons c<|.cons c<|.cons c<|.cons c<|.cons c<|.cons c<|.nil _) .slnil) fun k31 H32=>W (aU k31)<|W (aU k31)<|W (aU k31)<|W (aU k31)<|W (aU k31)<|W (aU k31)<|W (aU k31)<|p (aq c k31 c)<|ad<|cM false H32 (.cons c<|.cons c<|.cons c<|.cons c<|.cons c<|.cons c<|.cons c<|.cons c<|.nil _) .slnil) fun s21 _ H22=>aw c H22 (fun k23 H24=>ap<|J c<|J c<|aa<|aR H24 (bw (vs:=[(.int .i64 s12.2)]) c) c fun v43 _ H25=>aa<|aR H25 (dE c c) c fun v44 _ H26=>O c<|ap<|p (bo c c)<|J c<|ad<|cN (v44,(IntKind.i64.wrap (s12.2 + 1))) H26 (.cons c<|.cons c<|.cons c<|.cons c<|.cons c<|.cons c<|.nil _) .slnil) fun k23 H24=>ao<|ap<|p (bo c c)<|J c<|ad<|cN (s12.1,(IntKind.i64.wrap (s12.2 + 1))) H24 (.cons c<|.cons c<|.cons c<|.cons c<|.cons c<|.cons c<|.nil _) .slnil) fun k15 H16=>bi<|M<|J c<|O c<|aj<|Y ⟨s12.1,c,H16⟩) fun k4 H5=>W (cf<|bH k4)<|W (cf<|bH k4)<|p (aT c (bH k4) c)<|ad<|ke c c<|M<|O c<|aj<|Y ⟨(⟨none,0,0,none⟩:Sl),c,H5⟩
def qP (a0:Ptr) (a1:Int) (K:Bool->Hp->Prop):Hp->Prop:=br (decide (a1 >= 1)) ( cl prog fV [(pv a0)] gO fun r10=>br (decide (a1 <= r10)) ( cl prog iU [(pv a0),(.int .u64 a1)] cC fun r16=>K ((r16.len:Int) == 0)) ( K false)) ( K false)
theorem sim_epoch_Epochs_Done (a0:Ptr) (a1:Int) {K:Bool->Hp->Prop} {h:Hp} (H:qP a0 a1 K h):Ct prog jq #[(pv a0),(.int .u64 a1)] h fun v h'=>∃ r,v = aC r/\K r h':=ay [(pv a0),(.int .u64 a1)] func71 c c c fun _=>M<|O c<|M<|J c<|p (jJ c c)<|J c<|V c c (aB _) (fun g1=>wv<|ah c)<|V c c (aB _) (fun g2=>wv<|ah c)<|bS H (fun k4 H5=>F (D k4)<|fZ H5 en_119 (aS (aD c k4) bR) c fun r10 _ H6=>F (D k4)<|R (v_le (aD c k4) c)<|p (aT c k4 c)<|J c<|V c c (aB _) (fun g7=>wv<|ah c)<|V c c (aB _) (fun g8=>wv<|ah c)<|bS H6 (fun k10 H11=>F (D k10)<|fZ H11 en_121 (aS (aD c k10)<|aS (aD c k10) bR) c fun r16 _ H12=>F (D k10)<|R (dz c underlying39 c)<|F (D k10)<|R (bQ c c)<|p (aT c k10 c)<|O c<|aj<|Y ⟨((r16.len:Int) == 0),c,H12⟩) fun k10 H11=>W (aU k10)<|W (aU k10)<|W (aU k10)<|p (aq c k10 c)<|O c<|aj<|Y ⟨false,c,H11⟩) fun k4 H5=>W (aU k4)<|W (aU k4)<|p (aq c k4 c)<|J c<|W c<|W c<|W c<|W c<|W c<|p (aq c c c)<|O c<|aj<|Y ⟨false,c,H5⟩
def rM (a0:Ptr) (a1:Int) (a2:Int) (K:Bool->Hp->Prop):Hp->Prop:=cl prog kY [(pv a0),(.int .i64 a1)] aC fun r9=>br (!((!r9) || (decide (a2 < 1)))) ( cl prog fV [(pv a0)] gO fun r18=>br (decide (a2 > r18)) ( K false) ( nn a0 fun q22=>ld (q22.1,q22.2 + 1) cS fun x29=>ix x29 a1 fun q31=>ld (q31.1,q31.2 + Int.toNat a1 * 1) (cI .u64) fun x32=>ld (q22.1,q22.2 + 1) cS fun x24=>ix x24 a1 fun q35=>st (q35.1,q35.2 + Int.toNat a1 * 1) [.int .u64 (mx x32 a2)]<|K true)) ( K false)
theorem sim_epoch_Epochs_Ack (a0:Ptr) (a1:Int) (a2:Int) {K:Bool->Hp->Prop} {h:Hp} (H:rM a0 a1 a2 K h):Ct prog jY #[(pv a0),(.int .i64 a1),(.int .u64 a2)] h fun v h'=>∃ r,v = aC r/\K r h':=ay [(pv a0),(.int .i64 a1),(.int .u64 a2)] func98 c c c fun _=>M<|O c<|al<|M<|J c<|J c<|aa<|Z H en_118 fun r9 _ H1=>p (cr c)<|J c<|V c c (aL _) (fun g2=>wv<|ah c)<|V c c (aL _) (fun g3=>wv<|cx (aD c g3) c)<|p (dp c c)<|J c<|V c c (aL _) (fun g4=>wv<|ah c)<|V c c (aL _) (fun g5=>wv<|ah c)<|bS H1 (fun k7 H8=>F (D<|bW k7)<|fZ H8 en_119 (aS (aD c k7) bR) c fun r18 _ H9=>F (D<|bW k7)<|R (qB (aD c k7) c)<|p (aq c (bW k7) c)<|ad<|aw c H9 (fun k10 H11=>M<|O c<|aj<|Y ⟨false,c,H11⟩) fun k10 H11=>ao<|al<|bn (n:=16) [] cu c .slnil<|U 0 c (ah c)<|U 4 c (ah c)<|U 5 c (ah c)<|U 9 c (ah c)<|U 12 c (ah c)<|gT H11 fun q22 e12 H13=>U 1 c (aJ<|aN c<|ar e12)<|U 2 c (ae fld_167_1 c)<|U 6 c (aJ<|aN c<|ar e12)<|U 7 c (ae fld_167_1 c)<|bI (i:=8) (fun _ _ _ _ hh=>hh) H13 c (by kernel_rfl) sc_93 c (fun _=>c) c fun x29 H14=>gn H14 fun q31 e15 h16 H17=>U 10 c (bq wE (aN c<|bb e15) c h16)<|bI (i:=11) (fun _ _ _ _ hh=>hh) H17 c (by kernel_rfl) cy c (fun _=>c) c fun x32 H18=>U 13 c (v_maxT c c)<|bI (i:=3) (fun _ _ _ _ hh=>hh) H18 c (by kernel_rfl) sc_93 c (fun _=>c) c fun x24 H19=>gn H19 fun q35 e20 h21 H22=>U 14 c (bq wE (aN c<|bb e20) c h21)<|G 15 c<|dw inf_22 c c c c c H22 fun _ H23=>⟨.slnil,aV (by kernel_rfl)<|M<|O c<|aj<|Y ⟨true,c,H23⟩⟩) fun k7 H8=>W (cf<|bH k7)<|W (cf<|bH k7)<|p (aT c (bH k7) c)<|ad<|ke c c<|M<|O c<|aj<|Y ⟨false,c,H8⟩
def sh_epoch_New (a0:Int) (K:Ptr->Hp->Prop):Hp->Prop:=br ((decide (a0 < 1)) || (decide (a0 > 8))) ( K none) ( hpv prog (Instr.makeSlice be (.int .i64 a0) (.int .i64 a0)) cg fun (v10:Sl)=>nw hZ (jH.C (⟨(⟨none,0,0,none⟩:Sl),v10⟩:jH)) fun b12=>K (some (b12,0)))
theorem sim_epoch_New (a0:Int) {K:Ptr->Hp->Prop} {h:Hp} (H:sh_epoch_New a0 K h):Ct prog nR #[(.int .i64 a0)] h fun v h'=>∃ r,v = iJ r/\K r h':=ay [(.int .i64 a0)] func58 c c c fun _=>M<|O c<|al<|M<|J c<|p (cx c c)<|J c<|V c c (aL _) (fun g1=>wv<|ah c)<|V c c (aL _) (fun g2=>wv<|qB (aD c g2) c)<|p (dp c c)<|ad<|aw c H (fun k3 H4=>M<|O c<|aj<|Y ⟨none,c,H4⟩) fun k3 H4=>ao<|M<|J c<|aa<|aR H4 (jK c c) c fun v10 _ H5=>p (ba c<|build_167_1 v10)<|aa<|hY c c c H5 fun b12 _ H6=>O c<|aj<|Y ⟨some (b12,0),c,H6⟩
end
section
open Go Mb
def eY (x:Ptr) (e:List Int × List Int):As:=fun h=>∃ bs:Nat × Sl × Sl,(x = some (bs.1,0)/\e.2.length <= 8/\e.1.length < 2 ^ 38)/\aF [blk bs.1 hZ [sv bs.2.1,sv bs.2.2],vI bs.2.1 e.1,vU bs.2.2 e.2] h
theorem ep_op {x:Ptr} {e:List Int × List Int} {l:List As} {h:Hp} (s0:aF (eY x e::l) h):∃ b s t,x = some (b,0)/\e.2.length <= 8/\e.1.length < 2 ^ 38/\s.len = e.1.length/\t.len = e.2.length/\aF (blk b hZ [sv s,sv t]::vI s e.1::vU t e.2::l) h:=by
 obtain ⟨⟨b,s,t⟩,⟨hx,h1,h2⟩,st⟩:=op_ s0
 exact ⟨b,s,t,hx,h1,h2,(cj (j:=1) st rfl).1,(cj (j:=2) st rfl).1,st⟩
theorem ep_cl {b:Nat} {s t:Sl} {e1 e2:List Int} {l:List As} {h:Hp} (h1:e2.length <= 8) (h2:e1.length < 2 ^ 38) (st:aF (blk b hZ [sv s,sv t]::vI s e1::vU t e2::l) h):aF (eY (some (b,0)) (e1,e2)::l) h :=
 cl_ (m:=fun bs:Nat × Sl × Sl=>[blk bs.1 hZ [sv bs.2.1,sv bs.2.2],vI bs.2.1 (e1,e2).1,vU bs.2.2 (e1,e2).2]) (b,s,t) ⟨rfl,h1,h2⟩ st
namespace fMa
abbrev S:=List Int × List Int
def is (e:S) (c:Int):Bool:=decide (0 <= c/\c < e.2.length)
def now (e:S):Int:=e.1.length
def begin_ (e:S) (c:Int):(Int × Bool) × S:=if is e c then ((e.1.length + 1,true),(e.1++[c],e.2)) else ((0,false),e)
def ack (e:S) (c n:Int):Bool × S:=if is e c = true/\¬ n < 1/\¬ n > now e then (true,(e.1,e.2.set c.toNat (mx (e.2.getD c.toNat 0) n))) else (false,e)
def fIb (n o:Int):List Int->Int->List Int
 | [],_=>[]
 | a::l,i=>if a < n/\o ≠ i then i::fIb n o l (i + 1) else fIb n o l (i + 1)
def waits (e:S) (n:Int):List Int:=if n < 1\/n > now e then [] else fIb n (e.1.getD (n - 1).toNat 0) e.2 0
def done (e:S) (n:Int):Bool:=decide (n >= 1) && decide (n <= now e) && decide (waits e n = [])
end fMa
theorem wrapU {n:Int} (h0:0 <= n) (h1:n < 2^64):IntKind.u64.wrap n = n:=by
 simp only [IntKind.wrap]; first | omega | (simp [IntKind.bits,IntKind.signed]; omega)
theorem rY (n:Int) (h1:¬ n < 1) (h2:¬ n > 8):Sp prog nR [.int .i64 n] iJ [] (fun r=>aF [eY r ([],List.replicate n.toNat 0)]):=by
 intro h st
 refine sim_epoch_New _ ?_
 unfold sh_epoch_New
 obtain ⟨m,rfl⟩:=Int.eq_ofNat_of_zero_le (show 0 <= n by omega)
 refine dn (by simp; omega) ?_
 refine nS (τ:=Int) (x0:=0) (enc:=cI .u64) (n:=m) fX rfl st ?_ ?_ ?_
 ·omega
 ·omega
 ·intro v h' s1
  refine pw s1 fun b h'' s2=>?_
  exact ep_cl (by simp; omega) (by simp) (bd [1] (fN s2) rfl)
theorem sp_epoch_is (x:Ptr) (e:fMa.S) (c:Int):Sp prog kY [pv x,.int .i64 c] aC [eY x e] (fun r=>pa_ (r = fMa.is e c) [eY x e]):=by
 intro h s0
 obtain ⟨b,s,t,rfl,hb,he,hs,ht,st⟩:=ep_op s0
 refine sim_epoch_Epochs_is _ _ ?_
 unfold sU
 refine aY (fun k=>?_) (fun k=>?_)
 ·have k':0 <= c:=by simpa using k
  refine cD (bk t st (i:=0) rfl rfl rfl ?_)
  exact aX (by simp [fMa.is,k',ht]) s0
 ·have k':¬ 0 <= c:=by simpa using k
  exact aX (by simp [fMa.is]; intro h; exact absurd h k') s0
theorem rX (x:Ptr) (e:fMa.S):Sp prog fV [pv x] gO [eY x e] (fun r=>pa_ (r = fMa.now e) [eY x e]):=by
 intro h s0
 obtain ⟨b,s,t,rfl,hb,he,hs,ht,st⟩:=ep_op s0
 refine sim_epoch_Epochs_Now _ ?_
 unfold rL
 refine dn rfl (cD (bk s st (i:=0) rfl rfl rfl ?_))
 exact aX (by rw [wrapU (by omega) (by omega),hs]; rfl) s0
theorem sp_epoch_Begin (x:Ptr) (e:fMa.S) (c:Int) (hl:e.1.length < 2 ^ 37):Sp prog iV [pv x,.int .i64 c] bK [eY x e] (fun r=>pa_ (r = (fMa.begin_ e c).1) [eY x (fMa.begin_ e c).2]):=by
 intro h s0
 refine wS _ _ ?_
 unfold pL
 refine cQ [0] (sp_epoch_is x e c) s0 rfl fun r h1 s1=>?_
 obtain ⟨hr,s2⟩:=bt.1 s1
 subst hr
 refine aY (fun k=>?_) (fun k=>?_)
 ·have k':fMa.is e c = false:=by simpa using k
  have e1:fMa.begin_ e c = ((0,false),e):=by unfold fMa.begin_; rw [k']; rfl
  rw [e1]
  exact aX rfl s2
 ·have k':fMa.is e c = true:=by simpa using k
  have e1:fMa.begin_ e c = (((e.1.length:Int) + 1,true),(e.1++[c],e.2)):=if_pos k'
  rw [e1]
  obtain ⟨b,s,t,rfl,hb,he,hs,ht,st⟩:=ep_op s2
  refine cD (bk s st (i:=0) rfl rfl rfl ?_)
  refine wk st (i:=1) rfl (by omega) fun v h3 s3=>?_
  refine uL (i:=0) s3 rfl (show 0 + 0 + 1 <= 2 by decide) fun h4 s4=>?_
  have s5:=ep_cl (e1:=e.1++[c]) (e2:=e.2) hb (by simp; omega) s4
  refine cQ [0] (rX (some (b,0)) (e.1++[c],e.2)) s5 rfl fun r h6 s6=>?_
  obtain ⟨hr,s7⟩:=bt.1 s6
  subst hr
  exact aX (by simp [fMa.now]) s7
theorem sp_epoch_Ack (x:Ptr) (e:fMa.S) (c n:Int):Sp prog jY [pv x,.int .i64 c,.int .u64 n] aC [eY x e] (fun r=>pa_ (r = (fMa.ack e c n).1) [eY x (fMa.ack e c n).2]):=by
 intro h s0
 refine sim_epoch_Epochs_Ack _ _ _ ?_
 unfold rM
 refine cQ [0] (sp_epoch_is x e c) s0 rfl fun r h1 s1=>?_
 obtain ⟨hr,s2⟩:=bt.1 s1
 subst hr
 have no:¬ (fMa.is e c = true/\¬ n < 1/\¬ n > fMa.now e)->fMa.ack e c n = (false,e):=fun hh=>if_neg hh
 refine aY (fun k=>?_) (fun k=>?_)
 ·have k':fMa.is e c = true/\¬ n < 1:=by simpa using k
  refine cQ [0] (rX x e) s2 rfl fun r h3 s3=>?_
  obtain ⟨hr,s4⟩:=bt.1 s3
  subst hr
  refine aY (fun k2=>?_) (fun k2=>?_)
  ·rw [no (fun hh=>hh.2.2 (by simpa using k2))]
   exact aX rfl s4
  ·have k2':¬ n > fMa.now e:=by simpa using k2
   have e1:fMa.ack e c n = (true,(e.1,e.2.set c.toNat (mx (e.2.getD c.toNat 0) n))):=if_pos ⟨k'.1,k'.2,k2'⟩
   rw [e1]
   obtain ⟨b,s,t,rfl,hb,he,hs,ht,st⟩:=ep_op s4
   have hc:=k'.1
   unfold fMa.is at hc
   have hc':=of_decide_eq_true hc
   obtain ⟨m,rfl⟩:=Int.eq_ofNat_of_zero_le hc'.1
   have hm:m < e.2.length:=by omega
   refine cD (bk t st (i:=0) rfl rfl rfl ?_)
   refine dy st (j:=2) rfl (by omega) (by omega) fun q hq=>?_
   refine eB (j:=2) (i:=m) (k:=0) e.2[m] (dh _) st rfl hq (by simp) (aH hm) (by simp) ?_
   refine bk t st (i:=0) rfl rfl rfl ?_
   refine dy st (j:=2) rfl (by omega) (by omega) fun q2 hq2=>?_
   refine st_v (j:=2) (i:=m) (k:=0) (mx e.2[m] n) (dh _) st rfl hq2 (by simp) (aH hm) (by simp) rfl fun h5 s5=>?_
   have hg:e.2.getD (m:Int).toNat 0 = e.2[m]:=by simp [hm]
   rw [hg]
   exact aX rfl (ep_cl (by simpa using hb) he s5)
 ·have k':¬ (fMa.is e c = true/\¬ n < 1):=by simp at k; simp; omega
  rw [no (fun hh=>k' ⟨hh.1,hh.2.1⟩)]
  exact aX rfl s2
theorem wo (n o:Int):∀ (l:List Int) (i:Int) (a:Int),fMa.fIb n o (l++[a]) i = fMa.fIb n o l i++(if a < n/\o ≠ i + l.length then [i + l.length] else [])
 | [],i,a=>by simp only [List.nil_append,fMa.fIb]; split <;> simp_all
 | y::l,i,a=>by
  simp only [List.cons_append,fMa.fIb]
  rw [wo n o l (i + 1) a]
  have e:i + 1 + (l.length:Int) = i + ((y::l).length:Int):=by simp; omega
  rw [e]
  split <;> simp
theorem waits_len (n o:Int):∀ (l:List Int) (i:Int),(fMa.fIb n o l i).length <= l.length
 | [],_=>Nat.le_refl _
 | a::l,i=>by unfold fMa.fIb; have:=waits_len n o l (i + 1); split <;> simp <;> omega
theorem sp_epoch_Waits (x:Ptr) (e:fMa.S) (n:Int):Sp prog iU [pv x,.int .u64 n] cC [eY x e] (fun r=>aF [vI r (fMa.waits e n),eY x e]):=by
 intro h s0
 refine wR _ _ ?_
 unfold pK
 have no:(n < 1\/n > fMa.now e)->fMa.waits e n = []:=fun hh=>if_pos hh
 refine aY (fun k=>?_) (fun k=>?_)
 ·have k':¬ n < 1:=by simpa using k
  refine cQ [0] (rX x e) s0 rfl fun r h3 s3=>?_
  obtain ⟨hr,s4⟩:=bt.1 s3
  subst hr
  refine aY (fun k2=>?_) (fun k2=>?_)
  ·rw [no (.inr (by simpa using k2))]
   exact fN s4
  ·have k2':¬ n > fMa.now e:=by simpa using k2
   have e1:fMa.waits e n = fMa.fIb n (e.1.getD (n - 1).toNat 0) e.2 0:=if_neg (by omega)
   rw [e1]
   obtain ⟨b,s,t,rfl,hb,he,hs,ht,st⟩:=ep_op s4
   obtain ⟨m,hm⟩:=Int.eq_ofNat_of_zero_le (show 0 <= n - 1 by omega)
   have hm':m < e.1.length:=by unfold fMa.now at k2'; omega
   have hwu:IntKind.u64.wrap (n - 1) = m:=by rw [wrapU (by omega) (by omega),hm]
   have hg:e.1.getD (n - 1).toNat 0 = e.1[m]:=by rw [hm]; simp [hm']
   rw [hg]
   refine cD (bk t st (i:=0) rfl rfl rfl ?_)
   refine Lp.intro (fun (z:Sl × Int) h=>∃ k:Nat,z.2 = k/\k <= e.2.length/\aF [vI z.1 (fMa.fIb n e.1[m] (e.2.take k) 0),blk b hZ [sv s,sv t],vI s e.1,vU t e.2] h) (fun (z:Sl × Int) _=>e.2.length - z.2.toNat) ⟨0,rfl,Nat.zero_le _,fN st⟩ ?_
   rintro ⟨z,i⟩ h ⟨k3,rfl,hk3,s5⟩
   unfold kO
   refine aY (fun c=>?_) (fun c=>?_)
   ·have hlt:k3 < e.2.length:=by rw [ht] at c; simpa using c
    have hw:IntKind.i64.wrap ((k3:Int) + 1) = ((k3 + 1:Nat):Int):=by rw [bM (by omega) (by omega)]; rfl
    have htk:e.2.take (k3 + 1) = e.2.take k3++[e.2[k3]]:=by simp
    have hlen:((e.2.take k3).length:Int) = k3:=by simp; omega
    have off:¬ (e.2[k3] < n/\e.1[m] ≠ k3)->dq (fun z' h'=>(∃ k:Nat,z'.2 = k/\k <= e.2.length/\aF [vI z'.1 (fMa.fIb n e.1[m] (e.2.take k) 0),blk b hZ [sv s,sv t],vI s e.1,vU t e.2] h')/\e.2.length - z'.2.toNat < e.2.length - (k3:Int).toNat) (z,(k3:Int)) false h:=by
     intro hno
     unfold dq
     refine dn rfl ?_
     rw [hw]
     refine ⟨⟨k3 + 1,rfl,hlt,?_⟩,by simp; omega⟩
     rw [htk,wo,hlen,Int.zero_add,if_neg hno,List.append_nil]
     exact s5
    refine dy s5 (j:=3) rfl (by omega) (by show (k3:Int) < _; omega) fun q hq=>?_
    refine eB (j:=3) (i:=k3) (k:=0) e.2[k3] (dh _) s5 rfl hq (by simp) (aH hlt) (by simp) ?_
    refine aY (fun c2=>?_) (fun c2=>?_)
    ·have c2':e.2[k3] < n:=by simpa using c2
     refine bk s s5 (i:=1) rfl rfl rfl ?_
     rw [hwu]
     refine dy s5 (j:=2) rfl (by omega) (by omega) fun q2 hq2=>?_
     refine eB (j:=2) (i:=m) (k:=0) e.1[m] (dh _) s5 rfl hq2 (by simp) (aH hm') (by simp) ?_
     by_cases hne:e.1[m] = (k3:Int)
     ·have:(e.1[m] != (k3:Int)) = false:=by simp [hne]
      show dq _ _ (e.1[m] != (k3:Int)) h
      rw [this]
      exact off (fun hh=>hh.2 hne)
     ·have:(e.1[m] != (k3:Int)) = true:=by simp [hne]
      show dq _ _ (e.1[m] != (k3:Int)) h
      rw [this]
      unfold dq
      refine dL rfl ?_
      refine wk s5 (i:=0) rfl ?_ fun v h' s6=>?_
      ·have:=waits_len n e.1[m] (e.2.take k3) 0; simp at this; omega
      ·rw [hw]
       refine ⟨⟨k3 + 1,rfl,hlt,?_⟩,by simp; omega⟩
       rw [htk,wo,hlen,Int.zero_add,if_pos ⟨c2',hne⟩]
       exact s6
    ·have c2':¬ e.2[k3] < n:=by simpa using c2
     exact off (fun hh=>c2' hh.1)
   ·have:k3 = e.2.length:=by rw [ht] at c; simp at c; omega
    subst this
    rw [List.take_length] at s5
    exact star_tail s5 fun h6 s6=>ep_cl hb he s6
 ·have k':n < 1:=by simpa using k
  rw [no (.inl k')]
  exact fN s0
theorem sp_epoch_Done (x:Ptr) (e:fMa.S) (n:Int):Sp prog jq [pv x,.int .u64 n] aC [eY x e] (fun r=>pa_ (r = fMa.done e n) [eY x e]):=by
 intro h s0
 refine sim_epoch_Epochs_Done _ _ ?_
 unfold qP
 refine aY (fun k=>?_) (fun k=>?_)
 ·have k':n >= 1:=by simpa using k
  refine cQ [0] (rX x e) s0 rfl fun r h3 s3=>?_
  obtain ⟨hr,s4⟩:=bt.1 s3
  subst hr
  refine aY (fun k2=>?_) (fun k2=>?_)
  ·refine cQ [0] (sp_epoch_Waits x e n) s4 rfl fun r h5 s5=>?_
   have s6:=dB s5
   have hl:=(cj (j:=0) s6 rfl).1
   refine aX ?_ (ce (l:=[vI r (fMa.waits e n)]) s6)
   have e1:decide (n >= 1) = true:=k
   have e2:decide (n <= fMa.now e) = true:=k2
   rw [hl]
   unfold fMa.done
   rw [e1,e2]
   cases fMa.waits e n with
   | nil=>rfl
   | cons a l=>simp; omega
  ·exact aX (by unfold fMa.done; rw [k2]; simp) s4
 ·exact aX (by unfold fMa.done; rw [k]; rfl) s0
end
end Go.Proofs.YtemoifebbhoinaaGreatDoor
