/- Part of the proof of: The law ShootFrame returns true for every input, and leaves its arguments as they were. -/
import Derived.Test.YtochchocdckegaaGreatDoorShootFrame05
set_option linter.all false
set_option maxRecDepth 20000
namespace Go.Proofs.YtochchocdckegaaGreatDoor
open Go.Proofs.Tryz
open Go.IntKind (i64 u64)
open _root_.List (replicate)
open _root_.Nat (le_refl zero_le)
section
open Go Mb
namespace PK
theorem goers_frame {k:PK} (F:Fine k) {e s:Int} {w:Bool} (h:fAa.has k.caps e s = true) (hn:(fAa.get k.caps e s).fBa ≠ 0) {p:bX} (hp:p ∈ fAa.fZa k.caps e s w):(fAa.get k.caps p.fCa p.fDa).fEa = (fAa.get k.caps e s).fEa:=by
 obtain ⟨h1,h2,h3⟩:=(fAa.mem_goers F.ok.tree h hn).1 hp;rcases h3 with ⟨_,rfl⟩ | h3
 ·rfl
 ·exact fAa.under_frame F.ok.tree F.ok.fine _ _ _ (le_refl _) h1 _ h3
theorem revoke_eq {k:PK} (F:Fine k) {e s:Int} {w:Bool} (h:fAa.has k.caps e s = true) (hn:(fAa.get k.caps e s).fBa ≠ 0) :
  revoke k e s w = (⟨0,u64.wrap (fAa.fZa k.caps e s w).length⟩,gone { k with caps:=fAa.fVa k.caps (fAa.fZa k.caps e s w) } (fAa.get k.caps e s).fEa (fAa.fZa k.caps e s w)):=by
 have hlook:fAa.look k.caps e s = 0:=by unfold fAa.look; rw [if_neg (by rw [h]; simp),if_neg hn]
 have hrv:fAa.revoke k.caps e s = ((fAa.below k.caps e s,0),fAa.fVa k.caps (fAa.below k.caps e s)):=by unfold fAa.revoke; rw [if_neg (by rw [hlook]; simp)]
 unfold revoke;rw [hrv,if_neg (by simp),at_of h hn];cases w with
 | true =>
  rw [if_pos rfl];simp only [fAa.drop_after F.ok.tree h hn];unfold fAa.fZa;rw [if_pos rfl]
 | false =>
  rw [if_neg Bool.false_ne_true];unfold fAa.fZa;rw [if_neg Bool.false_ne_true]
theorem revoke_no {k:PK} {e s:Int} {w:Bool} (h:fAa.has k.caps e s = true) (hn:(fAa.get k.caps e s).fBa = 0):revoke k e s w = (⟨3,0⟩,k):=by
 have hlook:fAa.look k.caps e s = 3:=by unfold fAa.look; rw [if_neg (by rw [h]; simp),if_pos hn]
 have hrv:fAa.revoke k.caps e s = (([],3),k.caps):=by unfold fAa.revoke; rw [if_pos (by rw [hlook]; simp),hlook]
 unfold revoke;rw [hrv,if_pos (by simp)]
theorem revoke_q {k:PK} (F:Fine k) {e s:Int} {w:Bool} (h:fAa.has k.caps e s = true) (hn:(fAa.get k.caps e s).fBa ≠ 0) (a pg:Int) :
  q (revoke k e s w).2 a pg = if (q k a pg).fBa ≠ 0/\(⟨a,(q k a pg).fDa⟩:bX) ∈ fAa.fZa k.caps e s w then dc else q k a pg:=by
 rw [revoke_eq F h hn];have ok1:=ok_caps F.ok (t:=fAa.fVa k.caps (fAa.fZa k.caps e s w)) (fAa.empties_len _ _) (fAa.ok_empties F.ok.tree (fAa.goers_has F.ok.tree h hn) (fAa.goers_cl F.ok.tree h hn)) (fAa.fine_empties F.ok.tree F.ok.fine (fAa.goers_has F.ok.tree h hn) (fAa.goers_cl F.ok.tree h hn));exact gone_q _ ok1 _ (fun p hp=>((has_iff F.ok).1 (fAa.goers_has F.ok.tree h hn p hp)).1) a pg
theorem mv_revoke {k:PK} (F:Fine k) {e s:Int} {w:Bool} (h:fAa.has k.caps e s = true):Mv k (revoke k e s w).2:=by
 by_cases hn:(fAa.get k.caps e s).fBa = 0
 ·rw [revoke_no h hn]; exact .refl F
 have okr:=ok_revoke F.ok e s w;have hq:=revoke_q F (w:=w) h hn;rw [revoke_eq F h hn] at okr hq ⊢;have hgs:=gone_same (fAa.fZa k.caps e s w) { k with caps:=fAa.fVa k.caps (fAa.fZa k.caps e s w) } (fAa.get k.caps e s).fEa;have hcl:=fAa.goers_cl F.ok.tree (w:=w) h hn;have hhas:=fAa.goers_has F.ok.tree (w:=w) h hn;have hcaps:(gone { k with caps:=fAa.fVa k.caps (fAa.fZa k.caps e s w) } (fAa.get k.caps e s).fEa (fAa.fZa k.caps e s w)).caps = fAa.fVa k.caps (fAa.fZa k.caps e s w):=hgs.1;have hss:(gone { k with caps:=fAa.fVa k.caps (fAa.fZa k.caps e s w) } (fAa.get k.caps e s).fEa (fAa.fZa k.caps e s w)).s = k.s:=hgs.2.1;have keep:∀ a pg,(q k a pg).fBa ≠ 0->(⟨a,(q k a pg).fDa⟩:bX) ∉ fAa.fZa k.caps e s w->fAa.Keep k.caps (fAa.fVa k.caps (fAa.fZa k.caps e s w)) a (q k a pg).fDa:=fun a pg h1 h2=>by
  obtain ⟨b1,b2,b3⟩:=F.by_ a pg h1;exact fAa.keep_empties F.ok.tree hhas hcl b1 (by have:=(da b3).2; omega) h2
 refine ⟨⟨okr,fun a pg hne=>?_,fun f f0 f1=>?_⟩,hss,fun a pg h1 h2=>?_⟩
 ·simp only at hne ⊢;rw [hcaps];have hq':q (gone { k with caps:=fAa.fVa k.caps (fAa.fZa k.caps e s w) } (fAa.get k.caps e s).fEa (fAa.fZa k.caps e s w)) a pg = _:=hq a pg;rw [hq'] at hne ⊢;split at hne
  ·exact absurd rfl hne
  ·rename_i hc;rw [if_neg hc];obtain ⟨b1,b2,b3⟩:=F.by_ a pg hne;have:=(keep a pg hne (fun hm=>hc ⟨hne,hm⟩)).g;rw [this];exact ⟨by rw [fAa.empties_has]; exact b1,b2,b3⟩
 ·simp only at f1 ⊢;rw [hss] at f1;rw [hcaps];have hfr:=fine_frame F.ok.fine h hn;have hcnt:=fAa.cnt_empties f (fAa.fZa k.caps e s w) F.ok.tree.row (fAa.goers_nd F.ok.tree h) (fun p hp=>⟨hhas p hp,((fAa.mem_goers F.ok.tree h hn).1 hp).2.1⟩);have hcnt0:=fAa.cnt_empties (fAa.get k.caps e s).fEa (fAa.fZa k.caps e s w) F.ok.tree.row (fAa.goers_nd F.ok.tree h) (fun p hp=>⟨hhas p hp,((fAa.mem_goers F.ok.tree h hn).1 hp).2.1⟩);have hall:(fAa.fZa k.caps e s w).countP (fun p=>decide ((fAa.get k.caps p.fCa p.fDa).fEa = (fAa.get k.caps e s).fEa)) = (fAa.fZa k.caps e s w).length:=by
   rw [List.countP_eq_length];intro p hp;simp [goers_frame F h hn hp]
  rw [hall] at hcnt0;have hnum0:=F.num _ hfr.1 hfr.2;have hp:=gone_pool (fAa.fZa k.caps e s w) (k:={ k with caps:=fAa.fVa k.caps (fAa.fZa k.caps e s w) }) (fAa.get k.caps e s).fEa F.ok.pr (by show _ <= Pool.refs k.pool _; rw [hnum0]; omega) f f0;rw [hp];by_cases e1:f = (fAa.get k.caps e s).fEa
  ·rw [if_pos e1];subst e1;show Pool.refs k.pool _ - _ = _;rw [hnum0]; omega
  ·rw [if_neg e1];have hz:(fAa.fZa k.caps e s w).countP (fun p=>decide ((fAa.get k.caps p.fCa p.fDa).fEa = f)) = 0:=by
    rw [List.countP_eq_zero];intro p hp;rw [goers_frame F h hn hp];simp; exact fun h=>e1 h.symm
   rw [hz] at hcnt;show Pool.refs k.pool f = _;rw [F.num f f0 f1]; omega
 ·simp only at h2 ⊢;rw [hcaps];have hq':q (gone { k with caps:=fAa.fVa k.caps (fAa.fZa k.caps e s w) } (fAa.get k.caps e s).fEa (fAa.fZa k.caps e s w)) a pg = _:=hq a pg;rw [hq'] at h2;split at h2
  ·exact absurd rfl h2
  ·rename_i hc;exact keep a pg h1 (fun hm=>hc ⟨h1,hm⟩)
theorem mv_tabs {k k':PK} (F:Fine k) (ok':PK.Ok k') (hs:k'.s = k.s) (hc:k'.caps = k.caps) (hp:k'.pool = k.pool) (h:∀ a pg,(q k' a pg).fBa ≠ 0->fAa.has k.caps a (q k' a pg).fDa = true/\(fAa.get k.caps a (q k' a pg).fDa).fEa = (q k' a pg).fEa/\aO (q k' a pg).fBa (fAa.get k.caps a (q k' a pg).fDa).fBa = true):Mv k k' :=
 ⟨⟨ok',fun a pg hne=>by rw [hc]; exact h a pg hne,fun f f0 f1=>by rw [hc,hp]; exact F.num f f0 (by rw [← hs]; exact f1)⟩,hs,fun a pg _ _=>by rw [hc]; exact fAa.Keep.refl _ _ _⟩
theorem mv_maps {k:PK} (F:Fine k) {e pg s r:Int} (he:off k e = false) (h:fAa.has k.caps e s = true):Mv k (maps k e pg s r).2/\Mono k (maps k e pg s r).2:=by
 have okm:=ok_maps F.ok e pg s r;unfold maps at okm ⊢;split
 ·exact ⟨.refl F,.refl k⟩
 ·rename_i h1;rw [if_neg h1] at okm;split
  ·exact ⟨.refl F,.refl k⟩
  ·rename_i h2;rw [if_neg h2] at okm;split
   ·exact ⟨.refl F,.refl k⟩
   ·rename_i h3;rw [if_neg h3] at okm;have hc:(fAa.get k.caps e s).fBa ≠ 0:=((qd _ _ _).1 (by simpa using h1)).2;rw [at_of h hc] at okm h3 ⊢;have hl:=(tab_in F.ok he).2;have hg0:(Table.get (tab k e) pg).2 = false:=by simpa using h2
    have key:∀ a p,q { k with tabs:=k.tabs.set e.toNat (Table.insert (tab k e) pg ⟨(fAa.get k.caps e s).fEa,s,r⟩).2 } a p = q k a p\/((a = e/\p = pg)/\q { k with tabs:=k.tabs.set e.toNat (Table.insert (tab k e) pg ⟨(fAa.get k.caps e s).fEa,s,r⟩).2 } a p = ⟨(fAa.get k.caps e s).fEa,s,r⟩):=by
     intro a p;rw [q_tabs F.ok he];by_cases ha:a = e
     ·subst ha;rw [if_pos rfl];by_cases hz:(Table.insert (tab k a) pg ⟨(fAa.get k.caps a s).fEa,s,r⟩).1 = 0
      ·rw [Table.get_insert hl _ _ hz];by_cases hp:p = pg
       ·subst hp;rw [if_pos rfl];exact .inr ⟨⟨rfl,rfl⟩,rfl⟩
       ·rw [if_neg hp,q_get he]; exact .inl rfl
      ·rw [Table.insert_same _ _ hz,q_get he]; exact .inl rfl
     ·rw [if_neg ha]; exact .inl rfl
    refine ⟨mv_tabs F okm rfl rfl rfl fun a p hne=>?_,fun a p hne=>?_⟩
    ·simp only at hne ⊢;rcases key a p with e1 | ⟨⟨rfl,rfl⟩,e1⟩
     ·rw [e1] at hne ⊢; exact F.by_ a p hne
     ·rw [e1];exact ⟨h,rfl,by simpa using h3⟩
    ·simp only;rcases key a p with e1 | ⟨⟨rfl,rfl⟩,e1⟩
     ·exact e1
     ·exfalso
      rw [q_get he] at hne;rw [Table.get_snd] at hg0;exact hne (by simpa using hg0)
theorem remove_q {k:PK} (ok:PK.Ok k) {e pg:Int} (he:off k e = false) (a p:Int):q (remove k e pg).2 a p = if e = a/\pg = p then dc else q k a p:=by
 unfold remove;show q { k with tabs:=k.tabs.set e.toNat (Table.remove (tab k e) pg).2 } a p = _;rw [q_tabs ok he];by_cases ha:a = e
 ·subst ha;rw [if_pos rfl,Table.get_remove (tab_in ok he).2];by_cases hp:p = pg
  ·subst hp; rw [if_pos rfl,if_pos ⟨rfl,rfl⟩]
  ·rw [if_neg hp,if_neg (fun h=>hp h.2.symm),q_get he]
 ·rw [if_neg ha,if_neg (fun h=>ha h.1.symm)]
theorem mv_remove {k:PK} (F:Fine k) {e pg:Int} (he:off k e = false):Mv k (remove k e pg).2:=by
 refine mv_tabs F (ok_remove F.ok e pg) rfl rfl rfl fun a p hne=>?_;rw [remove_q F.ok he] at hne ⊢;split at hne
 ·exact absurd rfl hne
 ·rename_i hc; rw [if_neg hc]; exact F.by_ a p hne
def mayP (k:PK) (e pg r:Int):Prop:=(q k e pg).fBa ≠ 0/\aO r (fAa.get k.caps e (q k e pg).fDa).fBa = true
instance (k:PK) (e pg r:Int):Decidable (mayP k e pg r):=by unfold mayP; infer_instance
theorem protect_q {k:PK} (F:Fine k) {e pg r:Int} (he:off k e = false) (a p:Int):q (protect k e pg r).2 a p = if (e = a/\pg = p)/\mayP k e pg r then { q k a p with fBa:=r } else q k a p:=by
 unfold protect;by_cases h1:(Table.get (tab k e) pg).2 = false
 ·rw [if_pos h1,if_neg];rintro ⟨_,h2,_⟩;rw [q_get he] at h2;rw [Table.get_snd] at h1;exact h2 (by simpa using h1)
 ·rw [if_neg h1];have h1':(Table.get (tab k e) pg).2 = true:=by simpa using h1
  have hq:(q k e pg).fBa ≠ 0:=by rw [q_get he]; rw [Table.get_snd] at h1'; simpa using h1'
  have hb:=F.by_ e pg hq;rw [q_get he] at hb;have hat:=at_of hb.1 (by have:=(da hb.2.2).2; omega);rw [hat];by_cases h2:aO r (fAa.get k.caps e (Table.get (tab k e) pg).1.fDa).fBa = false
  ·rw [if_pos h2,if_neg];rintro ⟨_,_,h3⟩;rw [q_get he,h2] at h3; cases h3
  ·rw [if_neg h2];have h2':aO r (fAa.get k.caps e (Table.get (tab k e) pg).1.fDa).fBa = true:=by simpa using h2
   show q { k with tabs:=k.tabs.set e.toNat (Table.protect (tab k e) pg r).2 } a p = _;have hm:mayP k e pg r:=⟨hq,by rw [q_get he]; exact h2'⟩
   have hr:ch r = true:=by have:=(da h2').1; exact vM.2 this
   rw [q_tabs F.ok he];by_cases ha:a = e
   ·subst ha;rw [if_pos rfl,Table.get_protect (tab_in F.ok he).2 _ _ _ h1' hr];by_cases hp:p = pg
    ·subst hp; rw [if_pos rfl,if_pos ⟨⟨rfl,rfl⟩,hm⟩,q_get he]
    ·rw [if_neg hp,if_neg (fun h=>hp h.1.2.symm),q_get he]
   ·rw [if_neg ha,if_neg (fun h=>ha h.1.1.symm)]
theorem mv_protect {k:PK} (F:Fine k) {e pg r:Int} (he:off k e = false):Mv k (protect k e pg r).2:=by
 have hcp:(protect k e pg r).2.caps = k.caps/\(protect k e pg r).2.s = k.s/\(protect k e pg r).2.pool = k.pool:=by
  unfold protect;split
  ·exact ⟨rfl,rfl,rfl⟩
  ·split <;> exact ⟨rfl,rfl,rfl⟩
 refine mv_tabs F (ok_protect F.ok e pg r) hcp.2.1 hcp.1 hcp.2.2 fun a p hne=>?_;rw [protect_q F he] at hne ⊢;split at hne
 ·rename_i hc;obtain ⟨⟨rfl,rfl⟩,h1,h2⟩:=hc;rw [if_pos ⟨⟨rfl,rfl⟩,h1,h2⟩];have hb:=F.by_ e pg h1;exact ⟨hb.1,hb.2.1,h2⟩
 ·rename_i hc; rw [if_neg hc]; exact F.by_ a p hne
theorem mv_touch {k:PK} (F:Fine k) (f:Int) (c:cK):Mv k (touch k f c).2/\Mono k (touch k f c).2:=by
 have h:=touch_same k f c;have qs:=q_same h.2.1 h.2.2.2;exact ⟨⟨fine_touch F f c,h.2.2.2,fun a pg _ _=>by rw [h.1]; exact fAa.Keep.refl _ _ _⟩,fun a pg _=>qs a pg⟩
theorem mv_user {k:PK} (F:Fine k) (e:Int) (c:cK):Mv k (user k e c).2/\Mono k (user k e c).2:=by
 unfold user;split
 ·exact ⟨.refl F,.refl k⟩
 ·exact mv_touch F _ _
end PK
end
section
open Go Mb
def Tk (c:cK):Prop:=c.e0 = 4\/c.e0 = 5\/c.e0 = 7\/c.e0 = 8
instance (c:cK):Decidable (Tk c):=by unfold Tk; infer_instance
namespace PK
def gz (k:PK) (e:Int) (c:cK) (a s:Int):Bool :=
 if c.e0 = 5/\a = e/\s = c.e1 then true else if fAa.has k.caps a s = true then fAa.under k.caps (fAa.get k.caps a s) ⟨e,c.e1⟩ else false
def aft (k:PK) (e:Int) (c:cK) (a pg:Int):Pte :=
 if c.e0 = 7 then (if e = a/\c.e1 = pg then dc else q k a pg)
 else if c.e0 = 8 then (if (e = a/\c.e1 = pg)/\mayP k e pg c.e2 then { q k a pg with fBa:=c.e2 } else q k a pg)
 else if (q k a pg).fBa ≠ 0/\gz k e c a (q k a pg).fDa = true then dc else q k a pg
theorem envs_of {k:PK} (ok:PK.Ok k):1 <= k.s.fJa/\k.s.fJa <= 4:=by have:=fV.1 ok.sz; omega
theorem do_bad {k:PK} {e:Int} {c:cK} (h:off k e = true\/Word.check c k.s.fJa ≠ 0):(do_ k e c).2 = k/\(do_ k e c).1.2 = true/\(do_ k e c).1.1 = ⟨if off k e = true then 10 else Word.check c k.s.fJa,0⟩:=by
 unfold do_;by_cases h1:off k e = true
 ·rw [if_pos h1,if_pos h1]; exact ⟨rfl,rfl,rfl⟩
 ·rw [if_neg h1,if_neg h1,if_pos (h.resolve_left h1)]; exact ⟨rfl,rfl,rfl⟩
theorem do_good {k:PK} {e:Int} {c:cK} (h1:off k e = false) (h2:Word.check c k.s.fJa = 0):do_ k e c = does k e c:=by
 unfold do_; rw [if_neg (by rw [h1]; simp),if_neg (by rw [h2]; simp)]
theorem w0 {n:Int} {c:cK} (w:Well n c):i64.wrap c.e0 = c.e0:=bm (by have:=w.kind; omega) (by have:=w.kind; omega)
theorem gz_goers {k:PK} (F:Fine k) {e:Int} {c:cK} (hc:c.e0 = 4\/c.e0 = 5) (h:fAa.has k.caps e c.e1 = true) (hn:(fAa.get k.caps e c.e1).fBa ≠ 0) {a s:Int} (ha:fAa.has k.caps a s = true) (hr:(fAa.get k.caps a s).fBa ≠ 0) :
  gz k e c a s = true↔(⟨a,s⟩:bX) ∈ fAa.fZa k.caps e c.e1 (decide (c.e0 = 5)):=by
 rw [fAa.mem_goers F.ok.tree h hn];unfold gz;rw [if_pos ha];by_cases h5:c.e0 = 5/\a = e/\s = c.e1
 ·rw [if_pos h5];obtain ⟨h51,rfl,rfl⟩:=h5;simp [h51,ha,hr]
 ·rw [if_neg h5];constructor
  ·exact fun hu=>⟨ha,hr,.inr hu⟩
  ·rintro ⟨_,_,⟨h1,h2⟩ | h1⟩
   ·exact absurd ⟨of_decide_eq_true h1,congrArg aH.fCa h2,congrArg aH.fDa h2⟩ h5
   ·exact h1
theorem gz_empty {k:PK} (F:Fine k) {e:Int} {c:cK} (hn:(fAa.get k.caps e c.e1).fBa = 0) {a s:Int} (ha:fAa.has k.caps a s = true) (hr:(fAa.get k.caps a s).fBa ≠ 0):gz k e c a s = false:=by
 unfold gz;rw [if_neg,if_pos ha]
 ·exact fAa.under_empty F.ok.tree (p:=⟨e,c.e1⟩) hn _ a s (le_refl _) ha
 ·rintro ⟨_,rfl,rfl⟩;exact hr hn
theorem does_revoke {k:PK} {e:Int} {c:cK} (w:Well k.s.fJa c) (cw:Cw c) (hc:c.e0 = 4\/c.e0 = 5):does k e c = (((revoke k e c.e1 (decide (c.e0 = 5))).1,true),(revoke k e c.e1 (decide (c.e0 = 5))).2):=by
 have h1:i64.wrap c.e1 = c.e1:=kwr cw.c1 (by have:=w.w1 (by omega); omega);unfold does;rw [w0 w,h1];rcases hc with h | h <;> simp [h]
theorem do_q {k:PK} (F:Fine k) {e:Int} {c:cK} (cw:Cw c) (he:off k e = false) (hk:Word.check c k.s.fJa = 0) (ht:Tk c) (a pg:Int):q (do_ k e c).2 a pg = aft k e c a pg:=by
 have w:=sY (envs_of F.ok).1 (envs_of F.ok).2 hk;have h1:i64.wrap c.e1 = c.e1:=kwr cw.c1 (by have:=w.w1 (by unfold Tk at ht; omega); omega);rw [do_good he hk];have h45:c.e0 = 4\/c.e0 = 5->q (does k e c).2 a pg = aft k e c a pg:=by
  intro h;rw [does_revoke w cw h];unfold aft;rw [if_neg (by omega),if_neg (by omega)];have hh:fAa.has k.caps e c.e1 = true:=(has_iff F.ok).2 ⟨he,cw.c1,by have:=w.w1 (by omega); omega⟩;by_cases hn:(fAa.get k.caps e c.e1).fBa = 0
  ·rw [revoke_no hh hn,if_neg];rintro ⟨a1,a2⟩;have hb:=F.by_ a pg a1;rw [gz_empty F hn hb.1 (by have:=(da hb.2.2).2; omega)] at a2;cases a2
  ·show q (revoke k e c.e1 _).2 a pg = _;rw [revoke_q F hh hn];by_cases hz:(q k a pg).fBa ≠ 0
   ·have hb:=F.by_ a pg hz;have:=gz_goers F h hh hn hb.1 (by have:=(da hb.2.2).2; omega);by_cases hg:gz k e c a (q k a pg).fDa = true
    ·rw [if_pos ⟨hz,this.1 hg⟩,if_pos ⟨hz,hg⟩]
    ·rw [if_neg (fun x=>hg (this.2 x.2)),if_neg (fun x=>hg x.2)]
   ·rw [if_neg (fun x=>hz x.1),if_neg (fun x=>hz x.1)]
 rcases ht with h | h | h | h
 ·exact h45 (.inl h)
 ·exact h45 (.inr h)
 ·unfold aft;rw [if_pos h];have:does k e c = errs (remove k e c.e1):=by unfold does; rw [w0 w,h1]; simp [h]
  rw [this];exact remove_q F.ok he a pg
 ·unfold aft;rw [if_neg (by omega),if_pos h];have h2:i64.wrap c.e2 = c.e2:=kwr cw.c2 (by have:=w.w5 h; omega);have:does k e c = errs (protect k e c.e1 c.e2):=by unfold does; rw [w0 w,h1,h2]; simp [h]
  rw [this];have hp:=protect_q F he (pg:=c.e1) (r:=c.e2) a pg;show q (protect k e c.e1 c.e2).2 a pg = _;rw [hp];by_cases hc:e = a/\c.e1 = pg
  ·obtain ⟨rfl,rfl⟩:=hc; rfl
  ·rw [if_neg (fun x=>hc x.1),if_neg (fun x=>hc x.1)]
theorem do_mv {k:PK} (F:Fine k) {e:Int} {c:cK} (cw:Cw c):Mv k (do_ k e c).2/\(¬ Tk c->Mono k (do_ k e c).2):=by
 by_cases hb:off k e = true\/Word.check c k.s.fJa ≠ 0
 ·rw [(do_bad hb).1]; exact ⟨.refl F,fun _=>.refl k⟩
 ·simp only [not_or,Bool.not_eq_true,Decidable.not_not] at hb;obtain ⟨he,hk⟩:=hb;have w:=sY (envs_of F.ok).1 (envs_of F.ok).2 hk;rw [do_good he hk];have hs1:c.e0 ≠ 10->i64.wrap c.e1 = c.e1/\c.e1 < 8:=fun h=>⟨kwr cw.c1 (by have:=w.w1 h; omega),w.w1 h⟩
  have hh1:c.e0 ≠ 10->fAa.has k.caps e c.e1 = true:=fun h=>(has_iff F.ok).2 ⟨he,cw.c1,(hs1 h).2⟩;have c1:c.e0 = 1\/c.e0 = 2\/c.e0 = 3\/c.e0 = 4\/c.e0 = 5\/c.e0 = 6\/c.e0 = 7\/c.e0 = 8\/c.e0 = 9\/c.e0 = 10\/20 <= c.e0:=by have:=w.kind; omega
  rcases c1 with h | h | h | h | h | h | h | h | h | h | h
  ·have e1:does k e c = errs (alloc k e c.e1):=by unfold does; rw [w0 w,(hs1 (by omega)).1]; simp [h]
   rw [e1];have:=mv_alloc F (hh1 (by omega));exact ⟨this.1,fun _=>this.2⟩
  ·have h2:=w.w2 (.inl h);have h4:=w.w4 (.inl h);have e1:does k e c = errs (derive k e c.e1 e c.e2 c.e3):=by unfold does; rw [w0 w,(hs1 (by omega)).1,kwr cw.c2 (by omega),kwr cw.c3 (by omega)]; simp [h]
   rw [e1];have:=mv_derive F (r:=c.e3) (hh1 (by omega)) ((has_iff F.ok).2 ⟨he,cw.c2,by omega⟩);exact ⟨this.1,fun _=>this.2⟩
  ·have h3:=w.w3 h;have e1:does k e c = errs (derive k e c.e1 c.e2 c.e3 c.e4):=by
    unfold does; rw [w0 w,(hs1 (by omega)).1,kwr cw.c2 (by have:=(envs_of F.ok).2; omega),kwr cw.c3 (by omega),kwr cw.c4 (by omega)]; simp [h]
   rw [e1];have:=mv_derive F (r:=c.e4) (hh1 (by omega)) ((has_iff F.ok (e:=c.e2) (s:=c.e3)).2 ⟨off_iff.2 ⟨cw.c2,h3.1⟩,cw.c3,by omega⟩);exact ⟨this.1,fun _=>this.2⟩
  ·rw [does_revoke w cw (.inl h)];exact ⟨mv_revoke F (hh1 (by omega)),fun hn=>absurd (.inl h) hn⟩
  ·rw [does_revoke w cw (.inr h)];exact ⟨mv_revoke F (hh1 (by omega)),fun hn=>absurd (.inr (.inl h)) hn⟩
  ·have h2:=w.w2 (.inr h);have h4:=w.w4 (.inr h);have e1:does k e c = errs (maps k e c.e1 c.e2 c.e3):=by unfold does; rw [w0 w,(hs1 (by omega)).1,kwr cw.c2 (by omega),kwr cw.c3 (by omega)]; simp [h]
   rw [e1];have:=mv_maps F (pg:=c.e1) (s:=c.e2) (r:=c.e3) he ((has_iff F.ok).2 ⟨he,cw.c2,by omega⟩);exact ⟨this.1,fun _=>this.2⟩
  ·have e1:does k e c = errs (remove k e c.e1):=by unfold does; rw [w0 w,(hs1 (by omega)).1]; simp [h]
   rw [e1];exact ⟨mv_remove F he,fun hn=>absurd (.inr (.inr (.inl h))) hn⟩
  ·have h5:=w.w5 h;have e1:does k e c = errs (protect k e c.e1 c.e2):=by unfold does; rw [w0 w,(hs1 (by omega)).1,kwr cw.c2 (by omega)]; simp [h]
   rw [e1];exact ⟨mv_protect F he,fun hn=>absurd (.inr (.inr (.inr h))) hn⟩
  ·have e1:does k e c = (sleep k e c,k):=by unfold does; rw [w0 w]; simp [h]
   rw [e1]; exact ⟨.refl F,fun _=>.refl k⟩
  ·have e1:does k e c = ((⟨0,0⟩,true),k):=by unfold does; rw [w0 w]; simp [h]
   rw [e1]; exact ⟨.refl F,fun _=>.refl k⟩
  ·have e1:does k e c = (((user k e c).1,true),(user k e c).2):=by
    unfold does; rw [w0 w];rw [if_neg (by omega),if_neg (by omega),if_neg (by omega),if_neg (by omega),if_neg (by omega),if_neg (by omega),if_neg (by omega),if_neg (by omega),if_neg (by omega),if_neg (by omega)]
   rw [e1];have:=mv_user F e c;exact ⟨this.1,fun _=>this.2⟩
end PK
end
section
open Go Mb
theorem mid_eq (lo hi:Nat) (h:lo + hi < 2 ^ 62):i64.wrap (Int.fdiv (u64.wrap (i64.wrap ((lo:Int) + (hi:Int)))) (2 ^ (min (Int.toNat 1) (IntKind.bits .u64)))) = (((lo + hi) / 2:Nat):Int):=by
 have e0:i64.wrap ((lo:Int) + (hi:Int)) = ((lo + hi:Nat):Int):=by rw [bm (by omega) (by omega)]; rfl
 have e1:u64.wrap ((lo + hi:Nat):Int) = ((lo + hi:Nat):Int):=by
  simp only [IntKind.wrap]; first | omega | (simp [IntKind.bits,IntKind.signed]; omega)
 have e2:(2:Int) ^ (min (Int.toNat 1) (IntKind.bits .u64)) = 2:=by decide
 rw [e0,e1,e2,Int.fdiv_eq_ediv_of_nonneg _ (by decide)];have e3:((lo + hi:Nat):Int) / 2 = (((lo + hi) / 2:Nat):Int):=by omega
 rw [e3,bm (by omega) (by omega)]
structure PlaceIn (xs:List Int) (a:Int) (i:Nat):Prop where
 le:i <= xs.length
 lo:∀ k (h:k < xs.length),k < i->xs[k] < a
 hi:∀ k (h:k < xs.length),i <= k->a <= xs[k]
theorem less_eq (x y:Int):iQ x y = decide (x < y):=by
 unfold iQ;simp [dF]
theorem sp_BinarySearch (s:Sl) (xs:List Int) (a:Int) (hb:xs.length < 2 ^ 60) (hs:∀ i j (hi:i < xs.length) (hj:j < xs.length),i < j->xs[i] <= xs[j]) :
  Sp prog fo [sv s,.int .u64 a] bQ [vU s xs] (fun r=>pa_ (∃ i,PlaceIn xs a i/\r = ((i:Int),decide (xs[i]? = some a))) [vU s xs]):=by
 intro h s0;have hl:=(cj (j:=0) s0 rfl).1;refine mN _ _ ?_;unfold ib;refine Lp.intro (fun (z:Int × Int) h=>∃ lo hi:Nat,z = ((lo:Int),(hi:Int))/\lo <= hi/\hi <= xs.length/\(∀ k (h:k < xs.length),k < lo->xs[k] < a)/\(∀ k (h:k < xs.length),hi <= k->a <= xs[k])/\aB [vU s xs] h) (fun (z:Int × Int) _=>(z.2 - z.1).toNat)
  ⟨0,xs.length,by rw [hl]; rfl,zero_le _,le_refl _,fun k h h'=>by omega,fun k h h'=>by omega,s0⟩ ?_
 rintro z h ⟨lo,hi,rfl,h1,h2,h3,h4,s1⟩;unfold eW;refine aY (fun k=>?_) (fun k=>?_)
 ·have hlt:lo < hi:=by have:=of_decide_eq_true k; simp at this; exact this
  have hm:=mid_eq lo hi (by omega);simp only [hm];have hml:(lo + hi) / 2 < xs.length:=by omega
  refine dk s1 (j:=0) rfl (by omega) (by omega) fun q hq=>?_;refine dD (j:=0) (i:=(lo + hi) / 2) (k:=0) xs[(lo + hi) / 2] (ck _) s1 rfl hq (by rw [Int.toNat_natCast]; rfl) (aF hml) (by simp) ?_;rw [less_eq];refine aY (fun k2=>?_) (fun k2=>?_)
  ·have k2':xs[(lo + hi) / 2] < a:=by simpa using k2
   have hw:i64.wrap ((((lo + hi) / 2:Nat):Int) + 1) = (((lo + hi) / 2 + 1:Nat):Int):=by rw [bm (by omega) (by omega)]; rfl
   rw [hw];refine ⟨⟨(lo + hi) / 2 + 1,hi,rfl,by omega,h2,fun k hk hk'=>?_,h4,s1⟩,?_⟩
   ·by_cases e:k = (lo + hi) / 2
    ·subst e; exact k2'
    ·have:=hs k _ hk hml (by omega); omega
   ·show ((hi:Int) - (((lo + hi) / 2 + 1:Nat):Int)).toNat < ((hi:Int) - (lo:Int)).toNat;omega
  ·have k2':¬ xs[(lo + hi) / 2] < a:=by simpa using k2
   refine ⟨⟨lo,(lo + hi) / 2,rfl,by omega,by omega,h3,fun k hk hk'=>?_,s1⟩,?_⟩
   ·by_cases e:k = (lo + hi) / 2
    ·subst e; omega
    ·have:=hs _ k hml hk (by omega); omega
   ·show ((((lo + hi) / 2:Nat):Int) - (lo:Int)).toNat < ((hi:Int) - (lo:Int)).toNat;omega
 ·have hlt:lo = hi:=by have:=of_decide_eq_false k; simp at this; omega
  subst hlt;have hp:PlaceIn xs a lo:=⟨h2,h3,h4⟩
  refine aY (fun k2=>?_) (fun k2=>?_)
  ·have hlt:lo < xs.length:=by rw [hl] at k2; simpa using k2
   refine dk s1 (j:=0) rfl (by omega) (by show (lo:Int) < _; omega) fun q hq=>?_;refine dD (j:=0) (i:=lo) (k:=0) xs[lo] (ck _) s1 rfl hq (by simp) (aF hlt) (by simp) ?_;refine aY (fun k3=>?_) (fun k3=>?_)
   ·have k3':¬ xs[lo] = a:=by simpa using k3
    refine dD (j:=0) (i:=lo) (k:=0) xs[lo] (ck _) s1 rfl hq (by simp) (aF hlt) (by simp) ?_;exact ba ⟨lo,hp,by simp [dR,hlt,k3']⟩ s1
   ·have k3':xs[lo] = a:=by simpa using k3
    exact ba ⟨lo,hp,by simp [hlt,k3']⟩ s1
  ·have hlt:¬ lo < xs.length:=by rw [hl] at k2; simpa using k2
   exact ba ⟨lo,hp,by simp [List.getElem?_eq_none (Nat.le_of_not_lt hlt)]⟩ s1
def sub (m:Nat) (s:Sl) (lo hi:Nat):Sl:=⟨if s.cap = lo then s.a else s.a.map (fun q=>(q.1,q.2 + lo * m)),hi - lo,s.cap - lo,none⟩
theorem pa_map (p:Ptr) (n:Nat):(pa p).map (·.add n) = pa (p.map fun q=>(q.1,q.2 + n)):=by
 cases p with
 | none=>rfl
 | some q=>simp [pa,add_plain]
theorem slice_raw {P:Program} {h:Hp} {S T m bys:Nat} {z:List Value} {s:Sl} {lo hi:Nat} {vlo vhi:Option Value} {R:Sl->Value} {K:Sl->Hp->Prop} (E:El P S T m bys z) (hR:R = sv)
  (hlo:vlo = some (.int .i64 lo)\/vlo = none/\lo = 0) (hhi:vhi = some (.int .i64 hi)\/vhi = none/\hi = s.len) (h1:lo <= hi) (h2:hi <= s.cap) (k:K (sub m s lo hi) h):hpv P (Instr.sliceAt S (sv s) vlo vhi none) R K h:=by
 subst hR;refine ⟨?_⟩;obtain ⟨inf,hinf,e1,e2,e3⟩:=E.inf;unfold Instr.sliceAt;refine cH (dB E.sl ?_);show hp P (Instr.slice S (sv s) _ _ _) _ _;unfold Instr.slice;refine cH (dB E.sl ?_);simp only [sv];refine cH ?_;unfold Instr.sliceBounds;have fin:∀ hh:Hp,hh = h->hp P (do let size ← sizeOf T; pure (Value.slice (if s.cap = lo then pa s.a else (pa s.a).map (·.add (lo * size))) (hi - lo) (s.cap - lo))) (fun v h'=>∃ r,v = sv r/\K r h') hh:=by
  rintro _ rfl;refine cH (oQ hinf ?_);rw [e1];refine ⟨sub m s lo hi,?_,k⟩;unfold sub sv;split
  ·rfl
  ·rw [pa_map]
 rcases hhi with rfl | ⟨rfl,rfl⟩
 ·refine cH (cH (cH ?_));unfold Instr.sliceBound;refine cH (ut ?_);refine hp_yes ⟨by omega,by omega⟩ ?_;rcases hlo with rfl | ⟨rfl,rfl⟩
  ·refine cH (cH (ut ?_));refine hp_yes ⟨by omega,by omega⟩ ?_;exact fin h rfl
  ·exact fin h rfl
 ·refine cH (cH ?_);rcases hlo with rfl | ⟨rfl,rfl⟩
  ·refine cH ?_;unfold Instr.sliceBound;refine cH (ut ?_);refine hp_yes ⟨by omega,by omega⟩ ?_;exact fin h rfl
  ·exact fin h rfl
end
section
open Go Mb
def sh_mail_Mail_is (a0:Ptr) (a1:Int) (K:kT Bool):hT:=br ((!a0.isNone) && (decide (a1 >= 0))) ( nn a0 fun q14=>ld (q14.1,q14.2 + 0) cS fun x16=>K (decide (a1 < (x16.len:Int)))) ( K false)
theorem sim_mail_Mail_is (a0:Ptr) (a1:Int) {K:kT Bool} {h:Hp} (H:sh_mail_Mail_is a0 a1 K h):cl prog ms [(pv a0),(.int .i64 a1)] aC K h:=z_i func111 p p fun _=>O<|U p<|O<|M p<|J (v_pneT underlying74 p)<|M p<|W p p (ay _) (fun g1=>wv<|ai p)<|W p p (ay _) (fun g2=>wv<|kx (aD p g2) p)<|J (bO p p)<|M p<|W p p (ay _) (fun g3=>wv<|ai p)<|W p p (ay _) (fun g4=>wv<|ai p)<|bW H (fun k6 H7=>bI H7 fun q14 e8 H9=>G (F k6)<|z_p (aL<|aJ (aD p k6)<|ar e8)<|G (F k6)<|z_p (ae nh p)<|G (F k6)<|aW H9 lX p (fun _=>p) p fun x16 H10=>G (F k6)<|z_p (dK p underlying107 p)<|G (F k6)<|z_p (cn (aD p k6) p)<|J (aU p k6 p)<|U p<|aj<|Z ⟨decide (a1 < (x16.len:Int)),p,H10⟩) fun k6 H7=>Y (aS k6)<|Y (aS k6)<|Y (aS k6)<|Y (aS k6)<|Y (aS k6)<|J (au p k6 p)<|U p<|aj<|Z ⟨false,p,H7⟩
def tT (a0:Ptr) (a1:Int) (K:kT Int):hT:=cl prog ms [(pv a0),(.int .i64 a1)] aC fun r7=>br (!r7) ( K 0) ( nn a0 fun q10=>ld (q10.1,q10.2 + 0) cS fun x12=>ix x12 a1 fun q14=>ld (q14.1,q14.2 + Int.toNat a1 * 1) cS fun x15=>K (x15.len:Int))
theorem sim_mail_Mail_Waits (a0:Ptr) (a1:Int) {K:kT Int} {h:Hp} (H:tT a0 a1 K h):cl prog lP [(pv a0),(.int .i64 a1)] eH K h:=z_i func65 p p fun _=>O<|U p<|am<|O<|M p<|M p<|aa<|D H en_111 fun r7 _ H1=>J (cy p)<|ad<|aw p H1 (fun k2 H3=>O<|U p<|aj<|Z ⟨0,p,H3⟩) fun k2 H3=>an<|O<|M p<|bI H3 fun q10 e4 H5=>J (aL<|aJ p<|ar e4)<|J (ae nh p)<|aa<|aW H5 lX p (fun _=>p) p fun x12 H6=>M p<|cz H6 fun q14 e7 h8 H9=>J (bf mM (aJ p<|aX e7) p h8)<|aa<|aW H9 se p (fun _=>p) p fun x15 H10=>J (dK p underlying106 p)<|U p<|aj<|Z ⟨(x15.len:Int),p,H10⟩
def vb (a0:Ptr) (a1:Int) (K:kT (Int × Bool)):hT:=cl prog lP [(pv a0),(.int .i64 a1)] eH fun r9=>br (r9 == 0) ( K (0,false)) ( nn a0 fun q12=>ld (q12.1,q12.2 + 0) cS fun x14=>ix x14 a1 fun q16=>ld (q16.1,q16.2 + Int.toNat a1 * 1) cS fun x17=>ix x17 0 fun q18=>ld (q18.1,q18.2 + Int.toNat 0 * 1) (cI .u64) fun x19=>ld (q12.1,q12.2 + 0) cS fun x28=>ix x28 a1 fun q30=>ld (q30.1,q30.2 + Int.toNat a1 * 1) cS fun x31=>both ( ld (q12.1,q12.2 + 0) cS fun x23=>hpv prog (Instr.sliceAt bg (sv x31) (some (.int .i64 1)) none none) cg fun (v32:Sl)=>ix x23 a1 fun q33=>st (q33.1,q33.2 + Int.toNat a1 * 1) [sv v32]<|K (x19,true)) ( hpv prog (Instr.sliceAt bg (sv x31) (some (.int .i64 1)) none none) cg fun (v32:Sl)=>ld (q12.1,q12.2 + 0) cS fun x23=>ix x23 a1 fun q33=>st (q33.1,q33.2 + Int.toNat a1 * 1) [sv v32]<|K (x19,true)))
theorem sim_mail_Mail_Take (a0:Ptr) (a1:Int) {K:kT (Int × Bool)} {h:Hp} (H:vb a0 a1 K h):cl prog mU [(pv a0),(.int .i64 a1)] bN K h:=z_i func41 p p fun _=>O<|J (av p)<|U p<|am<|O<|M p<|M p<|aa<|D H en_65 fun r9 _ H1=>J (bP p p)<|ad<|aw p H1 (fun k2 H3=>O<|J (av p)<|U p<|aj<|bB (bR p (cd p)<|cd p) ⟨(0,false),p,H3⟩) fun k2 H3=>an<|O<|M p<|bI H3 fun q12 e4 H5=>J (aL<|aJ p<|ar e4)<|J (ae nh p)<|aa<|aW H5 lX p (fun _=>p) p fun x14 H6=>M p<|cz H6 fun q16 e7 h8 H9=>J (bf mM (aJ p<|aX e7) p h8)<|aa<|aW H9 se p (fun _=>p) p fun x17 H10=>cz H10 fun q18 e11 h12 H13=>J (bf th (aJ p<|aX e11) p h12)<|aa<|aW H13 cG p (fun _=>p) p fun x19 H14=>U p<|am<|bo (n:=15) [] cu p .slnil<|V 0 p (ai<|aJ p<|ar e4)<|V 1 p (aL p)<|V 2 p (ae nh p)<|V 4 p (ai p)<|V 5 p (ai<|aJ p<|ar e4)<|V 6 p (aL p)<|V 7 p (ae nh p)<|V 9 p (ai p)<|bz (i:=8) (fun _ _ _ _ hh=>hh) H14 p (by kernel_rfl) lX p (fun _=>p) p fun x28 H15=>dU H15 fun q30 e16 h17 H18=>V 10 p (bf mM (aJ p<|aX e16) p h17)<|bz (i:=11) (fun _ _ _ _ hh=>hh) H18 p (by kernel_rfl) se p (fun _=>p) p fun x31 H19=>kq H19 fun H20_1 H20_2=>kr (i:=3) (j:=12) (by kernel_rfl) (cR p p<|aW H20_1 lX p (fun _=>p) p fun x23 H21=>⟨.slnil,I 12 p<|aT H21 (fJ p p p p p) p fun v32 _ H22=>⟨.slnil,dU H22 fun q33 e23 h24 H25=>V 13 p (bf mM (aJ p<|aX e23) p h24)<|I 14 p<|dv inf_106 p p p p p H25 fun _ H26=>⟨.slnil,aR (by kernel_rfl)<|O<|M p<|J (av p)<|U p<|aj<|bB (bR p (cd p)<|cd p) ⟨(x19,true),p,H26⟩⟩⟩⟩)<|cR p p<|aT H20_2 (fJ p p p p p) p fun v32 _ H21=>⟨.slnil,bz (i:=3) (fun _ _ _ _ hh=>hh) H21 p (by kernel_rfl) lX p (fun _=>p) p fun x23 H22=>dU H22 fun q33 e23 h24 H25=>V 13 p (bf mM (aJ p<|aX e23) p h24)<|I 14 p<|dv inf_106 p p p p p H25 fun _ H26=>⟨.slnil,aR (by kernel_rfl)<|O<|M p<|J (av p)<|U p<|aj<|bB (bR p (cd p)<|cd p) ⟨(x19,true),p,H26⟩⟩⟩
def vd (a0:Ptr) (a1:Int) (a2:Int) (a3:Int) (K:kT Bool):hT:=cl prog ms [(pv a0),(.int .i64 a1)] aC fun r13=>br (!(!r13)) ( cl prog ms [(pv a0),(.int .i64 a2)] aC fun r18=>br ((!r18) || (a1 == a2)) ( K false) ( nn a0 fun q28=>ld (q28.1,q28.2 + 0) cS fun x30=>ix x30 a2 fun q32=>ld (q32.1,q32.2 + Int.toNat a2 * 1) cS fun x33=>cl prog fo [(sv x33),(.int .u64 a3)] bQ fun r35=>br (!r35.2) ( ld (q28.1,q28.2 + 0) cS fun x48=>ix x48 a2 fun q50=>ld (q50.1,q50.2 + Int.toNat a2 * 1) cS fun x51=>both ( ld (q28.1,q28.2 + 0) cS fun x43=>hpv prog (Instr.buildSlice bg 1 #[(0,(.int .u64 a3))]) cg fun (v54:Sl)=>cl prog dP [(sv x51),(.int .i64 r35.1),(sv v54)] cg fun r55=>ix x43 a2 fun q56=>st (q56.1,q56.2 + Int.toNat a2 * 1) [sv r55]<|K true) ( hpv prog (Instr.buildSlice bg 1 #[(0,(.int .u64 a3))]) cg fun (v54:Sl)=>both ( ld (q28.1,q28.2 + 0) cS fun x43=>cl prog dP [(sv x51),(.int .i64 r35.1),(sv v54)] cg fun r55=>ix x43 a2 fun q56=>st (q56.1,q56.2 + Int.toNat a2 * 1) [sv r55]<|K true) ( cl prog dP [(sv x51),(.int .i64 r35.1),(sv v54)] cg fun r55=>ld (q28.1,q28.2 + 0) cS fun x43=>ix x43 a2 fun q56=>st (q56.1,q56.2 + Int.toNat a2 * 1) [sv r55]<|K true))) ( K true))) ( K false)
theorem sim_mail_Mail_Send (a0:Ptr) (a1:Int) (a2:Int) (a3:Int) {K:kT Bool} {h:Hp} (H:vd a0 a1 a2 a3 K h):cl prog qV [(pv a0),(.int .i64 a1),(.int .i64 a2),(.int .u64 a3)] aC K h:=z_i func79 p p fun _=>O<|U p<|am<|O<|M p<|M p<|aa<|D H en_111 fun r13 _ H1=>J (cy p)<|M p<|W p p (aN _) (fun g2=>wv<|ai p)<|W p p (aN _) (fun g3=>wv<|ai p)<|bW H1 (fun k5 H6=>G (F<|cm k5)<|gQ H6 en_111 (aV (aD p k5)<|aV (aD p k5) bU) p fun r18 _ H7=>G (F<|cm k5)<|z_p (cy p)<|J (au p (cm k5) p)<|M p<|W p p (aN _) (fun g8=>wv<|ai p)<|W p p (aN _) (fun g9=>wv<|ai p)<|W p p (aN _) (fun g10=>wv<|bP (aD p g10)<|aD p g10)<|J (dC p p)<|ad<|aw p H7 (fun k11 H12=>O<|U p<|aj<|Z ⟨false,p,H12⟩) fun k11 H12=>an<|am<|O<|M p<|bI H12 fun q28 e13 H14=>J (aL<|aJ p<|ar e13)<|J (ae nh p)<|aa<|aW H14 lX p (fun _=>p) p fun x30 H15=>M p<|cz H15 fun q32 e16 h17 H18=>J (bf mM (aJ p<|aX e16) p h17)<|aa<|aW H18 se p (fun _=>p) p fun x33 H19=>M p<|aa<|D H19 en_129 fun r35 _ H20=>M p<|J (ak p p)<|J (ak p p)<|J (av p)<|U p<|O<|M p<|J (cy p)<|ad<|aw p H20 (fun k21 H22=>bo (n:=18) [] cu p .slnil<|V 0 p (ai<|aJ p<|ar e13)<|V 1 p (aL p)<|V 2 p (ae nh p)<|V 4 p (ai p)<|V 5 p (ai<|aJ p<|ar e13)<|V 6 p (aL p)<|V 7 p (ae nh p)<|V 9 p (ai p)<|V 12 p (ai p)<|V 13 p (ai p)<|bz (i:=8) (fun _ _ _ _ hh=>hh) H22 p (by kernel_rfl) lX p (fun _=>p) p fun x48 H23=>dU H23 fun q50 e24 h25 H26=>V 10 p (bf mM (aJ p<|aX e24) p h25)<|bz (i:=11) (fun _ _ _ _ hh=>hh) H26 p (by kernel_rfl) se p (fun _=>p) p fun x51 H27=>kq H27 fun H28_1 H28_2=>kr (i:=3) (j:=14) (by kernel_rfl) (cR p p<|aW H28_1 lX p (fun _=>p) p fun x43 H29=>⟨.slnil,I 14 p<|aT H29 (bw (vs:=[(.int .u64 a3)]) p) p fun v54 _ H30=>⟨.slnil,I 15 p<|D H30 en_130 fun r55 _ H31=>⟨.slnil,dU H31 fun q56 e32 h33 H34=>V 16 p (bf mM (aJ p<|aX e32) p h33)<|I 17 p<|dv inf_106 p p p p p H34 fun _ H35=>⟨.slnil,aR (by kernel_rfl)<|O<|U p<|aj<|Z ⟨true,p,H35⟩⟩⟩⟩⟩)<|cR p p<|aT H28_2 (bw (vs:=[(.int .u64 a3)]) p) p fun v54 _ H29=>⟨.slnil,kq H29 fun H30_1 H30_2=>kr (i:=3) (j:=15) (by kernel_rfl) (cR p p<|aW H30_1 lX p (fun _=>p) p fun x43 H31=>⟨.slnil,I 15 p<|D H31 en_130 fun r55 _ H32=>⟨.slnil,dU H32 fun q56 e33 h34 H35=>V 16 p (bf mM (aJ p<|aX e33) p h34)<|I 17 p<|dv inf_106 p p p p p H35 fun _ H36=>⟨.slnil,aR (by kernel_rfl)<|O<|U p<|aj<|Z ⟨true,p,H36⟩⟩⟩⟩)<|cR p p<|D H30_2 en_130 fun r55 _ H31=>⟨.slnil,bz (i:=3) (fun _ _ _ _ hh=>hh) H31 p (by kernel_rfl) lX p (fun _=>p) p fun x43 H32=>dU H32 fun q56 e33 h34 H35=>V 16 p (bf mM (aJ p<|aX e33) p h34)<|I 17 p<|dv inf_106 p p p p p H35 fun _ H36=>⟨.slnil,aR (by kernel_rfl)<|O<|U p<|aj<|Z ⟨true,p,H36⟩⟩⟩⟩) fun k21 H22=>an<|O<|U p<|aj<|Z ⟨true,p,H22⟩) fun k5 H6=>Y (cf<|bK k5)<|Y (cf<|bK k5)<|J (aU p (bK k5) p)<|M p<|Y p<|Y p<|Y p<|J (aU p p p)<|ad<|ny p p<|O<|U p<|aj<|Z ⟨false,p,H6⟩
def qY (a1:Int) (a2:Int) (K:kT Int) (q12:Nat × Nat) (x14:Sl) (Rec7:kT (Int × Int)) (s6:Int × Int):hT:=br (decide (s6.2 < (x14.len:Int))) ( cl prog qV [(.pointer (some ⟨q12.1,q12.2,none⟩)),(.int .i64 a1),(.int .i64 s6.2),(.int .u64 a2)] aC fun r23=>br r23 ( Rec7 ((i64.wrap (s6.1 + 1)),(i64.wrap (s6.2 + 1)))) ( Rec7 (s6.1,(i64.wrap (s6.2 + 1))))) ( K s6.1)
def wP (a0:Ptr) (a1:Int) (a2:Int) (K:kT Int):hT:=br a0.isNone ( K 0) ( nn a0 fun q12=>ld (q12.1,q12.2 + 0) cS fun x14=>Lp (qY a1 a2 K q12 x14) (0,0))
theorem sim_mail_Mail_All (a0:Ptr) (a1:Int) (a2:Int) {K:kT Int} {h:Hp} (H:wP a0 a1 a2 K h):cl prog nU [(pv a0),(.int .i64 a1),(.int .u64 a2)] eH K h:=z_i func50 p p fun _=>O<|U p<|am<|O<|M p<|J (cD underlying74 p)<|ad<|aw p H (fun k1 H2=>O<|U p<|aj<|Z ⟨0,p,H2⟩) fun k1 H2=>an<|O<|U p<|am<|O<|M p<|bI H2 fun q12 e3 H4=>J (aL<|aJ p<|ar e3)<|J (ae nh p)<|aa<|aW H4 lX p (fun _=>p) p fun x14 H5=>J (dK p underlying107 p)<|M p<|ad<|ax<|bv (step:=qY a1 a2 K q12 x14) (fun s6=>[(0,(pv a0)),(1,(.int .i64 a1)),(2,(.int .u64 a2)),(7,(.int .i64 s6.1)),(15,(.int .i64 (x14.len:Int))),(16,(.int .i64 s6.2))]) (fun s6=>[]) H5 (.cons p<|.cons p<|.cons p<|.cons p<|.cons p<|.cons p<|.nil _) .slnil fun Rec7 s6 _ H8=>O<|J (cn p p)<|ad<|am<|aw p H8 (fun k9 H10=>an<|am<|ax<|O<|M p<|U p<|O<|M (aJ p<|ar e3)<|M p<|M p<|M p<|aa<|D H10 en_79 fun r23 _ H11=>ad<|aw p H11 (fun k12 H13=>aq<|M p<|J (bk p p)<|U p<|aq<|J (bk p p)<|M p<|ad<|cF ((i64.wrap (s6.1 + 1)),(i64.wrap (s6.2 + 1))) H13 (.cons p<|.cons p<|.cons p<|.cons p<|.cons p<|.cons p<|.nil _) .slnil) fun k12 H13=>an<|aq<|J (bk p p)<|M p<|ad<|cF (s6.1,(i64.wrap (s6.2 + 1))) H13 (.cons p<|.cons p<|.cons p<|.cons p<|.cons p<|.cons p<|.nil _) .slnil) fun k9 H10=>bh<|O<|M p<|U p<|aj<|Z ⟨s6.1,p,H10⟩
def sh_mail_New (a0:Int) (K:kT Ptr):hT:=br ((decide (a0 < 1)) || (decide (a0 > 8))) ( K none) ( hpv prog (Instr.makeSlice qN (.int .i64 a0) (.int .i64 a0)) R_SSuint64 fun (v10:Sl)=>nw lV (oW.C (⟨v10⟩:oW)) fun b12=>K (some (b12,0)))
theorem sim_mail_New (a0:Int) {K:kT Ptr} {h:Hp} (H:sh_mail_New a0 K h):cl prog ul [(.int .i64 a0)] qf K h:=z_i func57 p p fun _=>O<|U p<|am<|O<|M p<|J (cn p p)<|M p<|W p p (aN _) (fun g1=>wv<|ai p)<|W p p (aN _) (fun g2=>wv<|pb (aD p g2) p)<|J (dC p p)<|ad<|aw p H (fun k3 H4=>O<|U p<|aj<|Z ⟨none,p,H4⟩) fun k3 H4=>an<|O<|M p<|aa<|aT H4 (ky p p) p fun v10 _ H5=>J (aZ p<|build_109_0 v10)<|aa<|iL p p p H5 fun b12 _ H6=>U p<|aj<|Z ⟨some (b12,0),p,H6⟩
end
section
open Go Mb
theorem wb (s y:Sl) (xs:List Int) (a:Int) (hl:xs.length < 2 ^ 40) :
  Sp prog dP [sv s,.int .i64 xs.length,sv y] cg [vU s xs,vU y [a]] (fun r=>vU r (xs++[a])):=by
 intro h s0;have hs:=(cj (j:=0) s0 rfl).1;have hy:=(cj (j:=1) s0 rfl).1;have hcap:s.len <= s.cap:=star_fact (i:=0) rfl (fun _ hv=>hv.2.1) s0;refine qj _ _ _ ?_;unfold jZ;refine slice_raw (lo:=xs.length) (hi:=s.len) gw rfl (.inl rfl) (.inr ⟨rfl,rfl⟩) (by omega) hcap ?_;refine dx (by rw [hy]; rfl) ?_;refine dW (by rw [hs]; simp) ?_;refine uG (τ:=Int) (i:=0) (j:=1) (enc:=cI .u64) (ys:=[a]) gw gw.sl (ck _) (oneI _) s0 rfl rfl (by omega) (by simp; omega) (by simp; omega) fun v h2 s2=>?_;obtain ⟨h3,h4,d,rfl,a2,_⟩:=s2;obtain ⟨e1,e2,e3⟩:=a2;refine ⟨e1,e2,?_⟩;rcases e3 with e3 | ⟨b,pre,rest,U,fr,f1,f2,fg,f3⟩
 ·exact .inl e3
 ·exact .inr ⟨b,pre,rest,U,fr,f1,f2,fg,un_left f3⟩
def jL (x:Ptr) (bs:List (List Int)):As:=fun h=>∃ z:Nat × Sl × List Sl,(x = some (z.1,0)/\z.2.2.length = bs.length/\bs.length <= 8)/\aB [blk z.1 lV [sv z.2.1],vec bg 1 cS z.2.1 z.2.2,all vU z.2.2 bs] h
theorem mail_op {x:Ptr} {bs:List (List Int)} {l:List As} {h:Hp} (s0:aB (jL x bs::l) h):∃ b s ss,x = some (b,0)/\ss.length = bs.length/\bs.length <= 8/\s.len = bs.length/\aB (blk b lV [sv s]::vec bg 1 cS s ss::all vU ss bs::l) h:=by
 obtain ⟨⟨b,s,ss⟩,⟨hx,h1,h2⟩,st⟩:=op_ s0;exact ⟨b,s,ss,hx,h1,h2,(cj (j:=1) st rfl).1.trans h1,st⟩
theorem mail_cl {b:Nat} {s:Sl} {ss:List Sl} {bs:List (List Int)} {l:List As} {h:Hp} (h1:ss.length = bs.length) (h2:bs.length <= 8) (st:aB (blk b lV [sv s]::vec bg 1 cS s ss::all vU ss bs::l) h):aB (jL (some (b,0)) bs::l) h :=
 cl_ (m:=fun z:Nat × Sl × List Sl=>[blk z.1 lV [sv z.2.1],vec bg 1 cS z.2.1 z.2.2,all vU z.2.2 bs]) (b,s,ss) ⟨rfl,h1,h2⟩ st
namespace Mail
abbrev S:=List (List Int)
def has (bs:S) (c:Int):Bool:=decide (0 <= c/\c < bs.length)
def box (bs:S) (c:Int):List Int:=bs.getD c.toNat []
def send (bs:S) (f t e:Int):Bool × S:=if has bs f = true/\has bs t = true/\f ≠ t then (true,bs.set t.toNat (box bs t++[e])) else (false,bs)
def sends (bs:S) (f e:Int):Nat->Int × S
 | 0=>(0,bs)
 | n + 1=>if (send (sends bs f e n).2 f n e).1 then ((sends bs f e n).1 + 1,(send (sends bs f e n).2 f n e).2) else ((sends bs f e n).1,(send (sends bs f e n).2 f n e).2)
def waits (bs:S) (c:Int):Int:=if has bs c then (box bs c).length else 0
def take (bs:S) (c:Int):(Int × Bool) × S:=if waits bs c = 0 then ((0,false),bs) else (((box bs c).getD 0 0,true),bs.set c.toNat ((box bs c).drop 1))
structure Fit (l:List Int) (e:Int):Prop where
 lt:∀ x ∈ l,x < e
 up:l.Pairwise (· < ·)
 len:l.length < 2 ^ 40
theorem send_len (bs:S) (f t e:Int):(send bs f t e).2.length = bs.length:=by unfold send; split <;> simp
theorem sends_len (bs:S) (f e:Int):∀ n,(sends bs f e n).2.length = bs.length
 | 0=>rfl
 | n + 1=>by unfold sends; split <;> simp only [send_len,sends_len bs f e n]
theorem send_other (bs:S) (f e:Int) (n m:Nat) (h:n ≠ m):(send bs f n e).2[m]? = bs[m]?:=by
 unfold send; split
 ·simp only [Int.toNat_natCast]; rw [List.getElem?_set_ne h]
 ·rfl
theorem sends_ge (bs:S) (f e:Int):∀ n m,n <= m->(sends bs f e n).2[m]? = bs[m]?
 | 0,_,_=>rfl
 | n + 1,m,h=>by unfold sends; split <;> simp only <;> rw [send_other _ _ _ _ _ (by omega),sends_ge bs f e n m (by omega)]
end Mail
theorem nils:∀ (n:Nat) {l:List As} {h:Hp},aB l h->aB (all vU (replicate n (⟨none,0,0,none⟩:Sl)) (replicate n ([]:List Int))::l) h
 | 0,_,_,s=>all_nil s
 | n + 1,l,h,s=>by
  have s1:=gg (τ:=Int) (T:=t_uint64) (m:=1) (enc:=cI .u64) (nils n s);rw [List.replicate_succ,List.replicate_succ];obtain ⟨h1,h2,d,e,a,h3,h4,d2,e2,b,s'⟩:=s1;subst e2;obtain ⟨d3,d4⟩:=Dj.of_un_right d;exact ⟨un h1 h3,h4,Dj.un_left d4 d2,by rw [e,nA],⟨h1,h3,d3,rfl,a,b⟩,s'⟩
theorem sp_mail_New (n:Int) (h1:¬ n < 1) (h2:¬ n > 8):Sp prog ul [.int .i64 n] qf [] (fun r=>aB [jL r (replicate n.toNat [])]):=by
 intro h st;refine sim_mail_New _ ?_;unfold sh_mail_New;obtain ⟨m,rfl⟩:=Int.eq_ofNat_of_zero_le (show 0 <= n by omega);refine dx (by simp; omega) ?_;refine oO (τ:=Sl) (x0:=⟨none,0,0,none⟩) (enc:=cS) (n:=m) (T:=bg) (m:=1) vR rfl st ?_ ?_ ?_
 ·omega
 ·omega
 ·intro v h' s1;have s2:=nils m s1;refine pL s2 fun b h'' s3=>?_;exact mail_cl (by simp) (by simp; omega) (bd [0,1] s3 rfl)
theorem sp_mail_is (x:Ptr) (bs:Mail.S) (c:Int):Sp prog ms [pv x,.int .i64 c] aC [jL x bs] (fun r=>pa_ (r = Mail.has bs c) [jL x bs]):=by
 intro h s0;obtain ⟨b,s,ss,rfl,hss,hb,hs,st⟩:=mail_op s0;refine sim_mail_Mail_is _ _ ?_;unfold sh_mail_Mail_is;refine aY (fun k=>?_) (fun k=>?_)
 ·have k':0 <= c:=by simpa using k
  refine cO (bq s st (i:=0) rfl rfl rfl ?_);exact ba (by simp [Mail.has,k',hs]) s0
 ·have k':¬ 0 <= c:=by simpa using k
  exact ba (by simp [Mail.has]; intro h; exact absurd h k') s0
theorem has_nat {bs:Mail.S} {c:Int} (h:Mail.has bs c = true):∃ n:Nat,c = n/\n < bs.length:=by
 unfold Mail.has at h;have:=of_decide_eq_true h;exact ⟨c.toNat,by omega,by omega⟩
theorem place_end {l:List Int} {e:Int} (f:Mail.Fit l e) {i:Nat} (p:PlaceIn l e i):i = l.length:=by
 rcases Nat.lt_or_ge i l.length with h | h
 ·have h1:=p.hi i h (le_refl _);have h2:=f.lt _ (List.getElem_mem h);omega
 ·have:=p.le; omega
theorem sp_mail_Send (x:Ptr) (bs:Mail.S) (f t e:Int) (hf:∀ l,bs[t.toNat]? = some l->Mail.Fit l e):Sp prog qV [pv x,.int .i64 f,.int .i64 t,.int .u64 e] aC [jL x bs] (fun r=>pa_ (r = (Mail.send bs f t e).1) [jL x (Mail.send bs f t e).2]):=by
 intro h s0;refine sim_mail_Mail_Send _ _ _ _ ?_;unfold vd;refine cZ [0] (sp_mail_is x bs f) s0 rfl fun r h1 s1=>?_;obtain ⟨rfl,s2⟩:=bt.1 s1;have no:¬ (Mail.has bs f = true/\Mail.has bs t = true/\f ≠ t)->Mail.send bs f t e = (false,bs):=fun hh=>if_neg hh;refine aY (fun k=>?_) (fun k=>?_)
 ·have k':Mail.has bs f = true:=by simpa using k
  refine cZ [0] (sp_mail_is x bs t) s2 rfl fun r h3 s3=>?_;obtain ⟨rfl,s4⟩:=bt.1 s3;refine aY (fun k2=>?_) (fun k2=>?_)
  ·rw [no (by simp at k2; intro hh; rcases k2 with k2 | k2; exact absurd hh.2.1 (by simp [k2]); exact hh.2.2 k2)];exact ba rfl s4
  ·have k2':Mail.has bs t = true/\f ≠ t:=by simpa using k2
   obtain ⟨n,rfl,hn⟩:=has_nat k2'.1;have ed:Mail.send bs f n e = (true,bs.set n (Mail.box bs n++[e])):=if_pos ⟨k',k2'.1,k2'.2⟩;rw [ed];obtain ⟨b,s,ss,rfl,hss,hb,hs,st⟩:=mail_op s4;have hns:n < ss.length:=by omega
   have hg:Mail.box bs n = bs[n]:=by simp [Mail.box,hn]
   have fit:=hf bs[n] (by rw [Int.toNat_natCast]; exact aF hn);refine cO (bq s st (i:=0) rfl rfl rfl ?_);refine dk st (j:=1) rfl (by omega) (by omega) fun q hq=>?_;refine dD (j:=1) (i:=n) (k:=0) ss[n] su st rfl hq (by simp) (aF hns) (by simp) ?_;have st1:=jT (aF hns) (aF hn) (bd [2] st rfl);refine cZ [0] (sp_BinarySearch ss[n] bs[n] e (by have:=fit.len; omega) (fun i j hi hj hij=>Int.le_of_lt (List.pairwise_iff_getElem.1 fit.up i j hi hj hij))) st1 rfl fun r h5 s5=>?_;obtain ⟨⟨i,pi,hr⟩,s6⟩:=bt.1 s5;have hi:=place_end fit pi;subst hi;have hr2:r.2 = false:=by rw [hr]; simp
   refine dW (by rw [hr2]; rfl) ?_;refine bq s s6 (i:=2) rfl rfl rfl ?_;refine dk s6 (j:=3) rfl (by omega) (by omega) fun q2 hq2=>?_;refine dD (j:=3) (i:=n) (k:=0) ss[n] su s6 rfl hq2 (by simp) (aF hns) (by simp) ?_;have fin:∀ (r55:Sl) (v54:Sl) (h:Hp),aB [vU r55 (bs[n]++[e]),but vU ss bs n,blk b lV [sv s],vec bg 1 cS s ss] h ->
     ix s n (fun q56=>Mb.st (q56.1,q56.2 + Int.toNat n * 1) [sv r55]<|pa_ (true = true) [jL (some (b,0)) (bs.set n (bs[n]++[e]))]) h:=by
    intro r55 v54 h s7;refine dk s7 (j:=3) rfl (by omega) (by omega) fun q3 hq3=>?_;refine uJ (j:=3) (i:=n) (k:=0) r55 su s7 rfl hq3 (by simp) (aF hns) (by simp) rfl fun h8 s8=>?_;have s9:=all_in2 (y:=bs[n]++[e]) hn hss s8;exact ba rfl (mail_cl (by simpa using hss) (by simpa using hb) (bd [1,1] s9 rfl))
   rw [hg,hr];refine ⟨?_,?_⟩
   ·refine bq s s6 (i:=2) rfl rfl rfl ?_;refine ft (τ:=Int) [e] (val:=fun x=>.int .u64 x) (enc:=cI .u64) gw (ck _) (fun _=>rfl) s6 rfl rfl (by simp) fun y h' s7=>?_;refine cZ [1,0] (wb ss[n] y bs[n] e fit.len) s7 rfl fun r h8 s8=>?_;exact fin r y h8 s8
   ·refine ft (τ:=Int) [e] (val:=fun x=>.int .u64 x) (enc:=cI .u64) gw (ck _) (fun _=>rfl) s6 rfl rfl (by simp) fun y h' s7=>?_;refine ⟨?_,?_⟩
    ·refine bq s s7 (i:=3) rfl rfl rfl ?_;refine cZ [1,0] (wb ss[n] y bs[n] e fit.len) s7 rfl fun r h8 s8=>?_;exact fin r y h8 s8
    ·refine cZ [1,0] (wb ss[n] y bs[n] e fit.len) s7 rfl fun r h8 s8=>?_;refine bq s s8 (i:=2) rfl rfl rfl ?_;exact fin r y h8 s8
 ·rw [no (by simp at k; simp [k])];exact ba rfl s2
theorem sp_mail_All (x:Ptr) (bs:Mail.S) (f e:Int) (hf:∀ l ∈ bs,Mail.Fit l e):Sp prog nU [pv x,.int .i64 f,.int .u64 e] eH [jL x bs] (fun r=>pa_ (r = (Mail.sends bs f e bs.length).1) [jL x (Mail.sends bs f e bs.length).2]):=by
 intro h s0;obtain ⟨b,s,ss,rfl,hss,hb,hs,st⟩:=mail_op s0;refine sim_mail_Mail_All _ _ _ ?_;unfold wP;refine dx rfl (cO (bq s st (i:=0) rfl rfl rfl ?_));refine Lp.intro (fun (z:Int × Int) h=>∃ n:Nat,z.2 = n/\n <= bs.length/\z.1 = (Mail.sends bs f e n).1/\0 <= z.1/\z.1 <= n/\aB [jL (some (b,0)) (Mail.sends bs f e n).2] h) (fun (z:Int × Int) _=>bs.length - z.2.toNat) ⟨0,rfl,zero_le _,rfl,Int.le_refl _,Int.le_refl _,s0⟩ ?_;rintro ⟨z,i⟩ h ⟨n,rfl,hn,hz,hz0,hz1,s1⟩;simp only at hz hz0 hz1;unfold qY;refine aY (fun k=>?_) (fun k=>?_)
 ·have hlt:n < bs.length:=by rw [hs] at k; simpa using k
  have hw:i64.wrap ((n:Int) + 1) = ((n + 1:Nat):Int):=by rw [bm (by omega) (by omega)]; rfl
  have hw2:i64.wrap (z + 1) = z + 1:=bm (by omega) (by omega);refine cZ [0] (sp_mail_Send (some (b,0)) (Mail.sends bs f e n).2 f n e ?_) s1 rfl fun r h2 s2=>?_
  ·intro l hl;rw [Int.toNat_natCast,Mail.sends_ge bs f e n n (le_refl _)] at hl;exact hf l (List.mem_of_getElem? hl)
  obtain ⟨rfl,s3⟩:=bt.1 s2;refine aY (fun k2=>?_) (fun k2=>?_)
  ·have e1:Mail.sends bs f e (n + 1) = ((Mail.sends bs f e n).1 + 1,(Mail.send (Mail.sends bs f e n).2 f n e).2):=by rw [Mail.sends,if_pos k2]
   rw [hw,hw2];refine ⟨⟨n + 1,rfl,hlt,?_,by simp only; omega,by simp only; omega,?_⟩,by simp; omega⟩
   ·rw [e1,hz]
   ·rw [e1]; exact s3
  ·have e1:Mail.sends bs f e (n + 1) = ((Mail.sends bs f e n).1,(Mail.send (Mail.sends bs f e n).2 f n e).2):=by rw [Mail.sends,if_neg (by rw [k2]; exact Bool.false_ne_true)]
   rw [hw];refine ⟨⟨n + 1,rfl,hlt,?_,by simp only; omega,by simp only; omega,?_⟩,by simp; omega⟩
   ·rw [e1,hz]
   ·rw [e1]; exact s3
 ·have:n = bs.length:=by rw [hs] at k; simp at k; omega
  subst this;exact ba hz s1
theorem sp_mail_Waits (x:Ptr) (bs:Mail.S) (c:Int):Sp prog lP [pv x,.int .i64 c] eH [jL x bs] (fun r=>pa_ (r = Mail.waits bs c) [jL x bs]):=by
 intro h s0;refine sim_mail_Mail_Waits _ _ ?_;unfold tT;refine cZ [0] (sp_mail_is x bs c) s0 rfl fun r h1 s1=>?_;obtain ⟨rfl,s2⟩:=bt.1 s1;refine aY (fun k=>?_) (fun k=>?_)
 ·have k':Mail.has bs c = false:=by simpa using k
  exact ba (by simp [Mail.waits,k']) s2
 ·have k':Mail.has bs c = true:=by simpa using k
  obtain ⟨n,rfl,hn⟩:=has_nat k';obtain ⟨b,s,ss,rfl,hss,hb,hs,st⟩:=mail_op s2;have hns:n < ss.length:=by omega
  refine cO (bq s st (i:=0) rfl rfl rfl ?_);refine dk st (j:=1) rfl (by omega) (by omega) fun q hq=>?_;refine dD (j:=1) (i:=n) (k:=0) ss[n] su st rfl hq (by simp) (aF hns) (by simp) ?_;have st1:=jT (aF hns) (aF hn) (bd [2] st rfl);have hl:=(cj (j:=0) st1 rfl).1;exact ba (by simp [Mail.waits,k',Mail.box,hn,hl]) s2
theorem sp_mail_Take (x:Ptr) (bs:Mail.S) (c:Int):Sp prog mU [pv x,.int .i64 c] bN [jL x bs] (fun r=>pa_ (r = (Mail.take bs c).1) [jL x (Mail.take bs c).2]):=by
 intro h s0;refine sim_mail_Mail_Take _ _ ?_;unfold vb;refine cZ [0] (sp_mail_Waits x bs c) s0 rfl fun r h1 s1=>?_;obtain ⟨rfl,s2⟩:=bt.1 s1;refine aY (fun k=>?_) (fun k=>?_)
 ·have k':Mail.waits bs c = 0:=by simpa using k
  have e1:Mail.take bs c = ((0,false),bs):=if_pos k';rw [e1];exact ba rfl s2
 ·have k':¬ Mail.waits bs c = 0:=by simpa using k
  have e1:Mail.take bs c = (((Mail.box bs c).getD 0 0,true),bs.set c.toNat ((Mail.box bs c).drop 1)):=if_neg k';rw [e1];have hh:Mail.has bs c = true:=by
   unfold Mail.waits at k';cases e:Mail.has bs c with
   | true=>rfl
   | false=>rw [e] at k'; exact absurd rfl k'
  obtain ⟨n,rfl,hn⟩:=has_nat hh;obtain ⟨b,s,ss,rfl,hss,hb,hs,st⟩:=mail_op s2;have hns:n < ss.length:=by omega
  have hg:Mail.box bs n = bs[n]:=by simp [Mail.box,hn]
  have h0:0 < bs[n].length:=by
   unfold Mail.waits at k';rw [hh,hg] at k';simp at k';exact List.length_pos_iff.2 k'
  rw [hg];refine cO (bq s st (i:=0) rfl rfl rfl ?_);refine dk st (j:=1) rfl (by omega) (by omega) fun q hq=>?_;refine dD (j:=1) (i:=n) (k:=0) ss[n] su st rfl hq (by simp) (aF hns) (by simp) ?_;have st1:=jT (aF hns) (aF hn) (bd [2] st rfl);refine dk st1 (j:=0) rfl (by omega) (by omega) fun q1 hq1=>?_;refine dD (j:=0) (i:=0) (k:=0) bs[n][0] (ck _) st1 rfl hq1 (by simp) (aF h0) (by simp) ?_;refine bq s st1 (i:=2) rfl rfl rfl ?_;refine dk st1 (j:=3) rfl (by omega) (by omega) fun q2 hq2=>?_;refine dD (j:=3) (i:=n) (k:=0) ss[n] su st1 rfl hq2 (by simp) (aF hns) (by simp) ?_;have fin:∀ (v:Sl) (h:Hp),aB [vU v (bs[n].drop 1),but vU ss bs n,blk b lV [sv s],vec bg 1 cS s ss] h ->
    ix s n (fun q33=>Mb.st (q33.1,q33.2 + Int.toNat n * 1) [sv v]<|pa_ ((bs[n][0],true) = ((bs[n].getD 0 0,true):Int × Bool)) [jL (some (b,0)) (bs.set n (bs[n].drop 1))]) h:=by
   intro v h s7;refine dk s7 (j:=3) rfl (by omega) (by omega) fun q3 hq3=>?_;refine uJ (j:=3) (i:=n) (k:=0) v su s7 rfl hq3 (by simp) (aF hns) (by simp) rfl fun h8 s8=>?_;have s9:=all_in2 (y:=bs[n].drop 1) hn hss s8;exact ba (by simp [h0]) (mail_cl (by simpa using hss) (by simpa using hb) (bd [1,1] s9 rfl))
  refine ⟨?_,?_⟩
  ·refine bq s st1 (i:=2) rfl rfl rfl ?_;refine sliceFrom_v (i:=0) (n:=1) gw (ck _) rfl st1 rfl h0 fun v s5=>?_;exact fin v _ s5
  ·refine sliceFrom_v (i:=0) (n:=1) gw (ck _) rfl st1 rfl h0 fun v s5=>?_;refine bq s s5 (i:=2) rfl rfl rfl ?_;exact fin v _ s5
end
section
open Go Mb
def tX (a0:Ptr) (a1:Int) (K:kT Bool):hT:=br ((!a0.isNone) && (decide (a1 >= 0))) ( nn a0 fun q14=>ld (q14.1,q14.2 + 1) cS fun x16=>K (decide (a1 < (x16.len:Int)))) ( K false)
theorem sim_epoch_Epochs_is (a0:Ptr) (a1:Int) {K:kT Bool} {h:Hp} (H:tX a0 a1 K h):cl prog lR [(pv a0),(.int .i64 a1)] aC K h:=z_i func70 p p fun _=>O<|U p<|O<|M p<|J (v_pneT underlying75 p)<|M p<|W p p (ay _) (fun g1=>wv<|ai p)<|W p p (ay _) (fun g2=>wv<|kx (aD p g2) p)<|J (bO p p)<|M p<|W p p (ay _) (fun g3=>wv<|ai p)<|W p p (ay _) (fun g4=>wv<|ai p)<|bW H (fun k6 H7=>bI H7 fun q14 e8 H9=>G (F k6)<|z_p (aL<|aJ (aD p k6)<|ar e8)<|G (F k6)<|z_p (ae fld_119_1 p)<|G (F k6)<|aW H9 se p (fun _=>p) p fun x16 H10=>G (F k6)<|z_p (dK p underlying106 p)<|G (F k6)<|z_p (cn (aD p k6) p)<|J (aU p k6 p)<|U p<|aj<|Z ⟨decide (a1 < (x16.len:Int)),p,H10⟩) fun k6 H7=>Y (aS k6)<|Y (aS k6)<|Y (aS k6)<|Y (aS k6)<|Y (aS k6)<|J (au p k6 p)<|U p<|aj<|Z ⟨false,p,H7⟩
def sO (a0:Ptr) (K:kT Int):hT:=br a0.isNone ( K 0) ( nn a0 fun q6=>ld (q6.1,q6.2 + 0) cS fun x8=>K (u64.wrap (x8.len:Int)))
theorem sim_epoch_Epochs_Now (a0:Ptr) {K:kT Int} {h:Hp} (H:sO a0 K h):cl prog gt [(pv a0)] ik K h:=z_i func71 p p fun _=>O<|U p<|am<|O<|M p<|J (cD underlying75 p)<|ad<|aw p H (fun k1 H2=>O<|U p<|aj<|Z ⟨0,p,H2⟩) fun k1 H2=>an<|O<|M p<|bI H2 fun q6 e3 H4=>J (aL<|aJ p<|ar e3)<|J (ae fld_119_0 p)<|aa<|aW H4 sc_27 p (fun _=>p) p fun x8 H5=>J (dK p underlying27 p)<|J (dy ⟨_,underlying3⟩ underlying31 p)<|U p<|aj<|Z ⟨u64.wrap (x8.len:Int),p,H5⟩
def sP (a0:Ptr) (a1:Int) (a2:Int) (K:kT Bool):hT:=cl prog lR [(pv a0),(.int .i64 a1)] aC fun r9=>br (!((!r9) || (decide (a2 < 1)))) ( cl prog gt [(pv a0)] ik fun r18=>br (decide (a2 > r18)) ( K false) ( nn a0 fun q22=>ld (q22.1,q22.2 + 1) cS fun x29=>ix x29 a1 fun q31=>ld (q31.1,q31.2 + Int.toNat a1 * 1) (cI .u64) fun x32=>ld (q22.1,q22.2 + 1) cS fun x24=>ix x24 a1 fun q35=>st (q35.1,q35.2 + Int.toNat a1 * 1) [.int .u64 (mx x32 a2)]<|K true)) ( K false)
theorem sim_epoch_Epochs_Ack (a0:Ptr) (a1:Int) (a2:Int) {K:kT Bool} {h:Hp} (H:sP a0 a1 a2 K h):cl prog kP [(pv a0),(.int .i64 a1),(.int .u64 a2)] aC K h:=z_i func43 p p fun _=>O<|U p<|am<|O<|M p<|M p<|aa<|D H en_70 fun r9 _ H1=>J (cy p)<|M p<|W p p (aN _) (fun g2=>wv<|ai p)<|W p p (aN _) (fun g3=>wv<|cn (aD p g3) p)<|J (dC p p)<|M p<|W p p (aN _) (fun g4=>wv<|ai p)<|W p p (aN _) (fun g5=>wv<|ai p)<|bW H1 (fun k7 H8=>G (F<|cm k7)<|gQ H8 en_71 (aV (aD p k7) bU) p fun r18 _ H9=>G (F<|cm k7)<|z_p (pb (aD p k7) p)<|J (au p (cm k7) p)<|ad<|aw p H9 (fun k10 H11=>O<|U p<|aj<|Z ⟨false,p,H11⟩) fun k10 H11=>an<|am<|bo (n:=16) [] cu p .slnil<|V 0 p (ai p)<|V 4 p (ai p)<|V 5 p (ai p)<|V 9 p (ai p)<|V 12 p (ai p)<|iy H11 fun q22 e12 H13=>V 1 p (aL<|aJ p<|ar e12)<|V 2 p (ae fld_119_1 p)<|V 6 p (aL<|aJ p<|ar e12)<|V 7 p (ae fld_119_1 p)<|bz (i:=8) (fun _ _ _ _ hh=>hh) H13 p (by kernel_rfl) se p (fun _=>p) p fun x29 H14=>dU H14 fun q31 e15 h16 H17=>V 10 p (bf th (aJ p<|aX e15) p h16)<|bz (i:=11) (fun _ _ _ _ hh=>hh) H17 p (by kernel_rfl) cG p (fun _=>p) p fun x32 H18=>V 13 p (v_maxT p p)<|bz (i:=3) (fun _ _ _ _ hh=>hh) H18 p (by kernel_rfl) se p (fun _=>p) p fun x24 H19=>dU H19 fun q35 e20 h21 H22=>V 14 p (bf th (aJ p<|aX e20) p h21)<|I 15 p<|dv inf_31 p p p p p H22 fun _ H23=>⟨.slnil,aR (by kernel_rfl)<|O<|U p<|aj<|Z ⟨true,p,H23⟩⟩) fun k7 H8=>Y (cf<|bK k7)<|Y (cf<|bK k7)<|J (aU p (bK k7) p)<|ad<|ny p p<|O<|U p<|aj<|Z ⟨false,p,H8⟩
def qz (a0:Ptr) (a1:Int) (K:kT (Int × Bool)):hT:=cl prog lR [(pv a0),(.int .i64 a1)] aC fun r8=>br (!r8) ( K (0,false)) ( nn a0 fun q12=>ld (q12.1,q12.2 + 0) cS fun x14=>hpv prog (Instr.buildSlice dT 1 #[(0,(.int .i64 a1))]) cJ fun (v16:Sl)=>hpv prog (Builtin.append_ #[dT,dT] dT #[(sv x14),(sv v16)]) cJ fun (v17:Sl)=>st (q12.1,q12.2 + 0) [sv v17]<|cl prog gt [(.pointer (some ⟨q12.1,q12.2,none⟩))] ik fun r21=>K (r21,true))
theorem xT (a0:Ptr) (a1:Int) {K:kT (Int × Bool)} {h:Hp} (H:qz a0 a1 K h):cl prog jx [(pv a0),(.int .i64 a1)] bN K h:=z_i func49 p p fun _=>O<|J (av p)<|U p<|am<|O<|M p<|M p<|aa<|D H en_70 fun r8 _ H1=>J (cy p)<|ad<|aw p H1 (fun k2 H3=>O<|J (av p)<|U p<|aj<|bB (bR p (cd p)<|cd p) ⟨(0,false),p,H3⟩) fun k2 H3=>an<|O<|M p<|M p<|bI H3 fun q12 e4 H5=>J (aL<|aJ p<|ar e4)<|J (ae fld_119_0 p)<|aa<|aW H5 sc_27 p (fun _=>p) p fun x14 H6=>M p<|aa<|aT H6 (bw (vs:=[(.int .i64 a1)]) p) p fun v16 _ H7=>aa<|aT H7 (dS p p) p fun v17 _ H8=>J (aL<|aJ p<|ar e4)<|J (ae fld_119_0 p)<|aa<|dv inf_27 p p p p p H8 fun _ H9=>ad<|O<|M (aJ p<|ar e4)<|aa<|D H9 en_71 fun r21 _ H10=>J (av p)<|U p<|aj<|bB (bR p (cd p)<|cd p) ⟨(r21,true),p,H10⟩
def dE (Rec13:kT (Sl × Int)) (s12:Sl × Int) (s21:Bool):hT:=br s21 ( hpv prog (Instr.buildSlice dT 1 #[(0,(.int .i64 s12.2))]) cJ fun (v43:Sl)=>hpv prog (Builtin.append_ #[dT,dT] dT #[(sv s12.1),(sv v43)]) cJ fun (v44:Sl)=>Rec13 (v44,(i64.wrap (s12.2 + 1)))) ( Rec13 (s12.1,(i64.wrap (s12.2 + 1))))
def lI (a1:Int) (K:kT Sl) (q17:Nat × Nat) (x19:Sl) (Rec13:kT (Sl × Int)) (s12:Sl × Int):hT:=br (decide (s12.2 < (x19.len:Int))) ( ix x19 s12.2 fun q24=>ld (q24.1,q24.2 + Int.toNat s12.2 * 1) (cI .u64) fun x25=>br (decide (x25 < a1)) ( ld (q17.1,q17.2 + 0) cS fun x33=>ix x33 (u64.wrap (a1 - 1)) fun q36=>ld (q36.1,q36.2 + Int.toNat (u64.wrap (a1 - 1)) * 1) (cI .i64) fun x37=>dE Rec13 s12 (x37 != s12.2)) ( dE Rec13 s12 false)) ( K s12.1)
def qy (a0:Ptr) (a1:Int) (K:kT Sl):hT:=br (!(decide (a1 < 1))) ( cl prog gt [(pv a0)] ik fun r13=>br (decide (a1 > r13)) ( K (⟨none,0,0,none⟩:Sl)) ( nn a0 fun q17=>ld (q17.1,q17.2 + 1) cS fun x19=>Lp (lI a1 K q17 x19) ((⟨none,0,0,none⟩:Sl),0))) ( K (⟨none,0,0,none⟩:Sl))
theorem xS (a0:Ptr) (a1:Int) {K:kT Sl} {h:Hp} (H:qy a0 a1 K h):cl prog jw [(pv a0),(.int .u64 a1)] cJ K h:=z_i func80 p p fun _=>O<|U p<|am<|O<|M p<|J (cn p p)<|M p<|W p p (aN _) (fun g1=>wv<|ai p)<|W p p (aN _) (fun g2=>wv<|ai p)<|bW H (fun k4 H5=>G (F<|cm k4)<|gQ H5 en_71 (aV (aD p k4) bU) p fun r13 _ H6=>G (F<|cm k4)<|z_p (pb (aD p k4) p)<|J (au p (cm k4) p)<|ad<|aw p H6 (fun k7 H8=>O<|U p<|aj<|Z ⟨(⟨none,0,0,none⟩:Sl),p,H8⟩) fun k7 H8=>an<|O<|U p<|am<|O<|M p<|bI H8 fun q17 e9 H10=>J (aL<|aJ p<|ar e9)<|J (ae fld_119_1 p)<|aa<|aW H10 se p (fun _=>p) p fun x19 H11=>J (dK p underlying106 p)<|M p<|ad<|ax<|bv (step:=lI a1 K q17 x19) (fun s12=>[(0,(pv a0)),(1,(.int .u64 a1)),(5,(sv s12.1)),(19,(sv x19)),(20,(.int .i64 (x19.len:Int))),(21,(.int .i64 s12.2))]) (fun s12=>[]) H11 (.cons p<|.cons p<|.cons p<|.cons p<|.cons p<|.cons p<|.nil _) .slnil fun Rec13 s12 _ H14=>O<|J (cn p p)<|ad<|am<|aw p H14 (fun k15 H16=>an<|am<|ax<|O<|M p<|cz H16 fun q24 e17 h18 H19=>J (bf th (aJ p<|aX e17) p h18)<|aa<|aW H19 cG p (fun _=>p) p fun x25 H20=>J (av p)<|U p<|eu (dE Rec13 s12) (fun s21=>[(0,(pv a0)),(1,(.int .u64 a1)),(5,(sv s12.1)),(6,(.int .i64 s12.2)),(19,(sv x19)),(20,(.int .i64 (x19.len:Int))),(21,(.int .i64 s12.2)),(40,(.bool s21))]) (fun s21=>[]) (aq<|M p<|M p<|J (cn p p)<|M p<|W p p (ay _) (fun g27=>wv<|ai<|aJ p<|ar e9)<|W p p (ay _) (fun g28=>wv<|aL<|aD p g28)<|W p p (ay _) (fun g29=>wv<|ae fld_119_0<|aD p g29)<|bW H20 (fun k31 H32=>G (F k31)<|aW H32 sc_27 (aD p k31) (fun _=>p) p fun x33 H33=>G (F k31)<|z_p (ai p)<|G (F k31)<|z_p (ia p p)<|cz H33 fun q36 e34 h35 H36=>G (F k31)<|z_p (bf dA (aJ p<|aX e34) p h35)<|G (F k31)<|aW H36 bc p (fun _=>p) p fun x37 H37=>G (F k31)<|z_p (ai p)<|G (F k31)<|z_p (nY p p)<|J (aU p k31 p)<|ad<|cE (x37 != s12.2) H37 (.cons p<|.cons p<|.cons p<|.cons p<|.cons p<|.cons p<|.cons p<|.cons p<|.nil _) .slnil) fun k31 H32=>Y (aS k31)<|Y (aS k31)<|Y (aS k31)<|Y (aS k31)<|Y (aS k31)<|Y (aS k31)<|Y (aS k31)<|J (au p k31 p)<|ad<|cE false H32 (.cons p<|.cons p<|.cons p<|.cons p<|.cons p<|.cons p<|.cons p<|.cons p<|.nil _) .slnil) fun s21 _ H22=>aw p H22 (fun k23 H24=>aq<|M p<|M p<|aa<|aT H24 (bw (vs:=[(.int .i64 s12.2)]) p) p fun v43 _ H25=>aa<|aT H25 (dS p p) p fun v44 _ H26=>U p<|aq<|J (bk p p)<|M p<|ad<|cF (v44,(i64.wrap (s12.2 + 1))) H26 (.cons p<|.cons p<|.cons p<|.cons p<|.cons p<|.cons p<|.nil _) .slnil) fun k23 H24=>an<|aq<|J (bk p p)<|M p<|ad<|cF (s12.1,(i64.wrap (s12.2 + 1))) H24 (.cons p<|.cons p<|.cons p<|.cons p<|.cons p<|.cons p<|.nil _) .slnil) fun k15 H16=>bh<|O<|M p<|U p<|aj<|Z ⟨s12.1,p,H16⟩) fun k4 H5=>Y (cf<|bK k4)<|Y (cf<|bK k4)<|J (aU p (bK k4) p)<|ad<|ny p p<|O<|U p<|aj<|Z ⟨(⟨none,0,0,none⟩:Sl),p,H5⟩
def rK (a0:Ptr) (a1:Int) (K:kT Bool):hT:=br (decide (a1 >= 1)) ( cl prog gt [(pv a0)] ik fun r10=>br (decide (a1 <= r10)) ( cl prog jw [(pv a0),(.int .u64 a1)] cJ fun r16=>K ((r16.len:Int) == 0)) ( K false)) ( K false)
theorem sim_epoch_Epochs_Done (a0:Ptr) (a1:Int) {K:kT Bool} {h:Hp} (H:rK a0 a1 K h):cl prog jR [(pv a0),(.int .u64 a1)] aC K h:=z_i func51 p p fun _=>O<|U p<|O<|M p<|J (kx p p)<|M p<|W p p (ay _) (fun g1=>wv<|ai p)<|W p p (ay _) (fun g2=>wv<|ai p)<|bW H (fun k4 H5=>G (F k4)<|gQ H5 en_71 (aV (aD p k4) bU) p fun r10 _ H6=>G (F k4)<|z_p (v_le (aD p k4) p)<|J (aU p k4 p)<|M p<|W p p (ay _) (fun g7=>wv<|ai p)<|W p p (ay _) (fun g8=>wv<|ai p)<|bW H6 (fun k10 H11=>G (F k10)<|gQ H11 en_80 (aV (aD p k10)<|aV (aD p k10) bU) p fun r16 _ H12=>G (F k10)<|z_p (dK p underlying27 p)<|G (F k10)<|z_p (bP p p)<|J (aU p k10 p)<|U p<|aj<|Z ⟨((r16.len:Int) == 0),p,H12⟩) fun k10 H11=>Y (aS k10)<|Y (aS k10)<|Y (aS k10)<|J (au p k10 p)<|U p<|aj<|Z ⟨false,p,H11⟩) fun k4 H5=>Y (aS k4)<|Y (aS k4)<|J (au p k4 p)<|M p<|Y p<|Y p<|Y p<|Y p<|Y p<|J (au p p p)<|U p<|aj<|Z ⟨false,p,H5⟩
def sh_epoch_New (a0:Int) (K:kT Ptr):hT:=br ((decide (a0 < 1)) || (decide (a0 > 8))) ( K none) ( hpv prog (Instr.makeSlice bg (.int .i64 a0) (.int .i64 a0)) cg fun (v10:Sl)=>nw iM (kv.C (⟨(⟨none,0,0,none⟩:Sl),v10⟩:kv)) fun b12=>K (some (b12,0)))
theorem sim_epoch_New (a0:Int) {K:kT Ptr} {h:Hp} (H:sh_epoch_New a0 K h):cl prog oN [(.int .i64 a0)] jm K h:=z_i func58 p p fun _=>O<|U p<|am<|O<|M p<|J (cn p p)<|M p<|W p p (aN _) (fun g1=>wv<|ai p)<|W p p (aN _) (fun g2=>wv<|pb (aD p g2) p)<|J (dC p p)<|ad<|aw p H (fun k3 H4=>O<|U p<|aj<|Z ⟨none,p,H4⟩) fun k3 H4=>an<|O<|M p<|aa<|aT H4 (ky p p) p fun v10 _ H5=>J (aZ p<|build_119_1 v10)<|aa<|iL p p p H5 fun b12 _ H6=>U p<|aj<|Z ⟨some (b12,0),p,H6⟩
end
section
open Go Mb
def fG (x:Ptr) (e:List Int × List Int):As:=fun h=>∃ bs:Nat × Sl × Sl,(x = some (bs.1,0)/\e.2.length <= 8/\e.1.length < 2 ^ 38)/\aB [blk bs.1 iM [sv bs.2.1,sv bs.2.2],vI bs.2.1 e.1,vU bs.2.2 e.2] h
theorem ep_op {x:Ptr} {e:List Int × List Int} {l:List As} {h:Hp} (s0:aB (fG x e::l) h):∃ b s t,x = some (b,0)/\e.2.length <= 8/\e.1.length < 2 ^ 38/\s.len = e.1.length/\t.len = e.2.length/\aB (blk b iM [sv s,sv t]::vI s e.1::vU t e.2::l) h:=by
 obtain ⟨⟨b,s,t⟩,⟨hx,h1,h2⟩,st⟩:=op_ s0;exact ⟨b,s,t,hx,h1,h2,(cj (j:=1) st rfl).1,(cj (j:=2) st rfl).1,st⟩
theorem ep_cl {b:Nat} {s t:Sl} {e1 e2:List Int} {l:List As} {h:Hp} (h1:e2.length <= 8) (h2:e1.length < 2 ^ 38) (st:aB (blk b iM [sv s,sv t]::vI s e1::vU t e2::l) h):aB (fG (some (b,0)) (e1,e2)::l) h :=
 cl_ (m:=fun bs:Nat × Sl × Sl=>[blk bs.1 iM [sv bs.2.1,sv bs.2.2],vI bs.2.1 (e1,e2).1,vU bs.2.2 (e1,e2).2]) (b,s,t) ⟨rfl,h1,h2⟩ st
namespace fLa
abbrev S:=List Int × List Int
def is (e:S) (c:Int):Bool:=decide (0 <= c/\c < e.2.length)
def now (e:S):Int:=e.1.length
def begin_ (e:S) (c:Int):(Int × Bool) × S:=if is e c then ((e.1.length + 1,true),(e.1++[c],e.2)) else ((0,false),e)
def ack (e:S) (c n:Int):Bool × S:=if is e c = true/\¬ n < 1/\¬ n > now e then (true,(e.1,e.2.set c.toNat (mx (e.2.getD c.toNat 0) n))) else (false,e)
def fIb (n o:Int):List Int->Int->List Int
 | [],_=>[]
 | a::l,i=>if a < n/\o ≠ i then i::fIb n o l (i + 1) else fIb n o l (i + 1)
def waits (e:S) (n:Int):List Int:=if n < 1\/n > now e then [] else fIb n (e.1.getD (n - 1).toNat 0) e.2 0
def done (e:S) (n:Int):Bool:=decide (n >= 1) && decide (n <= now e) && decide (waits e n = [])
end fLa
theorem wrapU {n:Int} (h0:0 <= n) (h1:n < 2^64):u64.wrap n = n:=by
 simp only [IntKind.wrap]; first | omega | (simp [IntKind.bits,IntKind.signed]; omega)
theorem tg (n:Int) (h1:¬ n < 1) (h2:¬ n > 8):Sp prog oN [.int .i64 n] jm [] (fun r=>aB [fG r ([],replicate n.toNat 0)]):=by
 intro h st;refine sim_epoch_New _ ?_;unfold sh_epoch_New;obtain ⟨m,rfl⟩:=Int.eq_ofNat_of_zero_le (show 0 <= n by omega);refine dx (by simp; omega) ?_;refine oO (τ:=Int) (x0:=0) (enc:=cI .u64) (n:=m) gw rfl st ?_ ?_ ?_
 ·omega
 ·omega
 ·intro v h' s1;refine pL s1 fun b h'' s2=>?_;exact ep_cl (by simp; omega) (by simp) (bd [1] (gg s2) rfl)
theorem sp_epoch_is (x:Ptr) (e:fLa.S) (c:Int):Sp prog lR [pv x,.int .i64 c] aC [fG x e] (fun r=>pa_ (r = fLa.is e c) [fG x e]):=by
 intro h s0;obtain ⟨b,s,t,rfl,hb,he,hs,ht,st⟩:=ep_op s0;refine sim_epoch_Epochs_is _ _ ?_;unfold tX;refine aY (fun k=>?_) (fun k=>?_)
 ·have k':0 <= c:=by simpa using k
  refine cO (bq t st (i:=0) rfl rfl rfl ?_);exact ba (by simp [fLa.is,k',ht]) s0
 ·have k':¬ 0 <= c:=by simpa using k
  exact ba (by simp [fLa.is]; intro h; exact absurd h k') s0
theorem tf (x:Ptr) (e:fLa.S):Sp prog gt [pv x] ik [fG x e] (fun r=>pa_ (r = fLa.now e) [fG x e]):=by
 intro h s0;obtain ⟨b,s,t,rfl,hb,he,hs,ht,st⟩:=ep_op s0;refine sim_epoch_Epochs_Now _ ?_;unfold sO;refine dx rfl (cO (bq s st (i:=0) rfl rfl rfl ?_));exact ba (by rw [wrapU (by omega) (by omega),hs]; rfl) s0
theorem sp_epoch_Begin (x:Ptr) (e:fLa.S) (c:Int) (hl:e.1.length < 2 ^ 37):Sp prog jx [pv x,.int .i64 c] bN [fG x e] (fun r=>pa_ (r = (fLa.begin_ e c).1) [fG x (fLa.begin_ e c).2]):=by
 intro h s0;refine xT _ _ ?_;unfold qz;refine cZ [0] (sp_epoch_is x e c) s0 rfl fun r h1 s1=>?_;obtain ⟨hr,s2⟩:=bt.1 s1;subst hr;refine aY (fun k=>?_) (fun k=>?_)
 ·have k':fLa.is e c = false:=by simpa using k
  have e1:fLa.begin_ e c = ((0,false),e):=by unfold fLa.begin_; rw [k']; rfl
  rw [e1];exact ba rfl s2
 ·have k':fLa.is e c = true:=by simpa using k
  have e1:fLa.begin_ e c = (((e.1.length:Int) + 1,true),(e.1++[c],e.2)):=if_pos k';rw [e1];obtain ⟨b,s,t,rfl,hb,he,hs,ht,st⟩:=ep_op s2;refine cO (bq s st (i:=0) rfl rfl rfl ?_);refine xr st (i:=1) rfl (by omega) fun v h3 s3=>?_;refine vZ (i:=0) s3 rfl (show 0 + 0 + 1 <= 2 by decide) fun h4 s4=>?_;have s5:=ep_cl (e1:=e.1++[c]) (e2:=e.2) hb (by simp; omega) s4;refine cZ [0] (tf (some (b,0)) (e.1++[c],e.2)) s5 rfl fun r h6 s6=>?_;obtain ⟨hr,s7⟩:=bt.1 s6;subst hr;exact ba (by simp [fLa.now]) s7
theorem sp_epoch_Ack (x:Ptr) (e:fLa.S) (c n:Int):Sp prog kP [pv x,.int .i64 c,.int .u64 n] aC [fG x e] (fun r=>pa_ (r = (fLa.ack e c n).1) [fG x (fLa.ack e c n).2]):=by
 intro h s0;refine sim_epoch_Epochs_Ack _ _ _ ?_;unfold sP;refine cZ [0] (sp_epoch_is x e c) s0 rfl fun r h1 s1=>?_;obtain ⟨hr,s2⟩:=bt.1 s1;subst hr;have no:¬ (fLa.is e c = true/\¬ n < 1/\¬ n > fLa.now e)->fLa.ack e c n = (false,e):=fun hh=>if_neg hh;refine aY (fun k=>?_) (fun k=>?_)
 ·have k':fLa.is e c = true/\¬ n < 1:=by simpa using k
  refine cZ [0] (tf x e) s2 rfl fun r h3 s3=>?_;obtain ⟨hr,s4⟩:=bt.1 s3;subst hr;refine aY (fun k2=>?_) (fun k2=>?_)
  ·rw [no (fun hh=>hh.2.2 (by simpa using k2))];exact ba rfl s4
  ·have k2':¬ n > fLa.now e:=by simpa using k2
   have e1:fLa.ack e c n = (true,(e.1,e.2.set c.toNat (mx (e.2.getD c.toNat 0) n))):=if_pos ⟨k'.1,k'.2,k2'⟩;rw [e1];obtain ⟨b,s,t,rfl,hb,he,hs,ht,st⟩:=ep_op s4;have hc:=k'.1;unfold fLa.is at hc;have hc':=of_decide_eq_true hc;obtain ⟨m,rfl⟩:=Int.eq_ofNat_of_zero_le hc'.1;have hm:m < e.2.length:=by omega
   refine cO (bq t st (i:=0) rfl rfl rfl ?_);refine dk st (j:=2) rfl (by omega) (by omega) fun q hq=>?_;refine dD (j:=2) (i:=m) (k:=0) e.2[m] (ck _) st rfl hq (by simp) (aF hm) (by simp) ?_;refine bq t st (i:=0) rfl rfl rfl ?_;refine dk st (j:=2) rfl (by omega) (by omega) fun q2 hq2=>?_;refine uJ (j:=2) (i:=m) (k:=0) (mx e.2[m] n) (ck _) st rfl hq2 (by simp) (aF hm) (by simp) rfl fun h5 s5=>?_;have hg:e.2.getD (m:Int).toNat 0 = e.2[m]:=by simp [hm]
   rw [hg];exact ba rfl (ep_cl (by simpa using hb) he s5)
 ·have k':¬ (fLa.is e c = true/\¬ n < 1):=by simp at k; simp; omega
  rw [no (fun hh=>k' ⟨hh.1,hh.2.1⟩)];exact ba rfl s2
theorem xw (n o:Int):∀ (l:List Int) (i:Int) (a:Int),fLa.fIb n o (l++[a]) i = fLa.fIb n o l i++(if a < n/\o ≠ i + l.length then [i + l.length] else [])
 | [],i,a=>by simp only [List.nil_append,fLa.fIb]; split <;> simp_all
 | y::l,i,a=>by
  simp only [List.cons_append,fLa.fIb];rw [xw n o l (i + 1) a];have e:i + 1 + (l.length:Int) = i + ((y::l).length:Int):=by simp; omega
  rw [e];split <;> simp
theorem waits_len (n o:Int):∀ (l:List Int) (i:Int),(fLa.fIb n o l i).length <= l.length
 | [],_=>le_refl _
 | a::l,i=>by unfold fLa.fIb; have:=waits_len n o l (i + 1); split <;> simp <;> omega
theorem sp_epoch_Waits (x:Ptr) (e:fLa.S) (n:Int):Sp prog jw [pv x,.int .u64 n] cJ [fG x e] (fun r=>aB [vI r (fLa.waits e n),fG x e]):=by
 intro h s0;refine xS _ _ ?_;unfold qy;have no:(n < 1\/n > fLa.now e)->fLa.waits e n = []:=fun hh=>if_pos hh;refine aY (fun k=>?_) (fun k=>?_)
 ·have k':¬ n < 1:=by simpa using k
  refine cZ [0] (tf x e) s0 rfl fun r h3 s3=>?_;obtain ⟨hr,s4⟩:=bt.1 s3;subst hr;refine aY (fun k2=>?_) (fun k2=>?_)
  ·rw [no (.inr (by simpa using k2))];exact gg s4
  ·have k2':¬ n > fLa.now e:=by simpa using k2
   have e1:fLa.waits e n = fLa.fIb n (e.1.getD (n - 1).toNat 0) e.2 0:=if_neg (by omega);rw [e1];obtain ⟨b,s,t,rfl,hb,he,hs,ht,st⟩:=ep_op s4;obtain ⟨m,hm⟩:=Int.eq_ofNat_of_zero_le (show 0 <= n - 1 by omega);have hm':m < e.1.length:=by unfold fLa.now at k2'; omega
   have hwu:u64.wrap (n - 1) = m:=by rw [wrapU (by omega) (by omega),hm]
   have hg:e.1.getD (n - 1).toNat 0 = e.1[m]:=by rw [hm]; simp [hm']
   rw [hg];refine cO (bq t st (i:=0) rfl rfl rfl ?_);refine Lp.intro (fun (z:Sl × Int) h=>∃ k:Nat,z.2 = k/\k <= e.2.length/\aB [vI z.1 (fLa.fIb n e.1[m] (e.2.take k) 0),blk b iM [sv s,sv t],vI s e.1,vU t e.2] h) (fun (z:Sl × Int) _=>e.2.length - z.2.toNat) ⟨0,rfl,zero_le _,gg st⟩ ?_;rintro ⟨z,i⟩ h ⟨k3,rfl,hk3,s5⟩;unfold lI;refine aY (fun c=>?_) (fun c=>?_)
   ·have hlt:k3 < e.2.length:=by rw [ht] at c; simpa using c
    have hw:i64.wrap ((k3:Int) + 1) = ((k3 + 1:Nat):Int):=by rw [bm (by omega) (by omega)]; rfl
    have htk:e.2.take (k3 + 1) = e.2.take k3++[e.2[k3]]:=by simp
    have hlen:((e.2.take k3).length:Int) = k3:=by simp; omega
    have off:¬ (e.2[k3] < n/\e.1[m] ≠ k3)->dE (fun z' h'=>(∃ k:Nat,z'.2 = k/\k <= e.2.length/\aB [vI z'.1 (fLa.fIb n e.1[m] (e.2.take k) 0),blk b iM [sv s,sv t],vI s e.1,vU t e.2] h')/\e.2.length - z'.2.toNat < e.2.length - (k3:Int).toNat) (z,(k3:Int)) false h:=by
     intro hno;unfold dE;refine dx rfl ?_;rw [hw];refine ⟨⟨k3 + 1,rfl,hlt,?_⟩,by simp; omega⟩;rw [htk,xw,hlen,Int.zero_add,if_neg hno,List.append_nil];exact s5
    refine dk s5 (j:=3) rfl (by omega) (by show (k3:Int) < _; omega) fun q hq=>?_;refine dD (j:=3) (i:=k3) (k:=0) e.2[k3] (ck _) s5 rfl hq (by simp) (aF hlt) (by simp) ?_;refine aY (fun c2=>?_) (fun c2=>?_)
    ·have c2':e.2[k3] < n:=by simpa using c2
     refine bq s s5 (i:=1) rfl rfl rfl ?_;rw [hwu];refine dk s5 (j:=2) rfl (by omega) (by omega) fun q2 hq2=>?_;refine dD (j:=2) (i:=m) (k:=0) e.1[m] (ck _) s5 rfl hq2 (by simp) (aF hm') (by simp) ?_;by_cases hne:e.1[m] = (k3:Int)
     ·have:(e.1[m] != (k3:Int)) = false:=by simp [hne]
      show dE _ _ (e.1[m] != (k3:Int)) h;rw [this];exact off (fun hh=>hh.2 hne)
     ·have:(e.1[m] != (k3:Int)) = true:=by simp [hne]
      show dE _ _ (e.1[m] != (k3:Int)) h;rw [this];unfold dE;refine dW rfl ?_;refine xr s5 (i:=0) rfl ?_ fun v h' s6=>?_
      ·have:=waits_len n e.1[m] (e.2.take k3) 0; simp at this; omega
      ·rw [hw];refine ⟨⟨k3 + 1,rfl,hlt,?_⟩,by simp; omega⟩;rw [htk,xw,hlen,Int.zero_add,if_pos ⟨c2',hne⟩];exact s6
    ·have c2':¬ e.2[k3] < n:=by simpa using c2
     exact off (fun hh=>c2' hh.1)
   ·have:k3 = e.2.length:=by rw [ht] at c; simp at c; omega
    subst this;rw [List.take_length] at s5;exact star_tail s5 fun h6 s6=>ep_cl hb he s6
 ·have k':n < 1:=by simpa using k
  rw [no (.inl k')];exact gg s0
theorem sp_epoch_Done (x:Ptr) (e:fLa.S) (n:Int):Sp prog jR [pv x,.int .u64 n] aC [fG x e] (fun r=>pa_ (r = fLa.done e n) [fG x e]):=by
 intro h s0;refine sim_epoch_Epochs_Done _ _ ?_;unfold rK;refine aY (fun k=>?_) (fun k=>?_)
 ·have k':n >= 1:=by simpa using k
  refine cZ [0] (tf x e) s0 rfl fun r h3 s3=>?_;obtain ⟨hr,s4⟩:=bt.1 s3;subst hr;refine aY (fun k2=>?_) (fun k2=>?_)
  ·refine cZ [0] (sp_epoch_Waits x e n) s4 rfl fun r h5 s5=>?_;have s6:=dH s5;have hl:=(cj (j:=0) s6 rfl).1;refine ba ?_ (bY (l:=[vI r (fLa.waits e n)]) s6);have e1:decide (n >= 1) = true:=k;have e2:decide (n <= fLa.now e) = true:=k2;rw [hl];unfold fLa.done;rw [e1,e2];cases fLa.waits e n with
   | nil=>rfl
   | cons a l=>simp; omega
  ·exact ba (by unfold fLa.done; rw [k2]; simp) s4
 ·exact ba (by unfold fLa.done; rw [k]; rfl) s0
end
section
open Go Mb
def qH (Rec4:kT (Sl × Int)) (s3:Sl × Int) (x17:jG) (Rec14:kT (Sl × Int)) (s13:Sl × Int):hT:=br (decide (s13.2 < 2)) ( hpv prog (Instr.index t_2_tlb_line (.agg (jG.C x17).toArray) (.int .i64 s13.2)) R_tlb_line fun (v20:cA)=>hpv prog (Instr.buildSlice rA 1 #[(0,(.agg (ap.C v20.fl).toArray))]) rU fun (v24:Sl)=>hpv prog (Builtin.append_ #[rA,rA] rA #[(sv s13.1),(sv v24)]) rU fun (v25:Sl)=>Rec14 (v25,(i64.wrap (s13.2 + 1)))) ( Rec4 (s13.1,(i64.wrap (s3.2 + 1))))
def qI (a0:Ptr) (K:kT Sl) (Rec4:kT (Sl × Int)) (s3:Sl × Int):hT:=br (decide (s3.2 < 4)) ( nn a0 fun q14=>gd (0 <= s3.2/\s3.2 < 4)<|ld (q14.1,q14.2 + 0 + Int.toNat s3.2 * 10) jG.C fun x17=>Lp (qH Rec4 s3 x17) (s3.1,0)) ( K s3.1)
def wJ (a0:Ptr) (K:kT Sl):hT:=br a0.isNone ( K (⟨none,0,0,none⟩:Sl)) ( Lp (qI a0 K) ((⟨none,0,0,none⟩:Sl),0))
theorem sim_tlb_Tlb_Lines (a0:Ptr) {K:kT Sl} {h:Hp} (H:wJ a0 K h):cl prog sf [(pv a0)] rU K h:=z_i func66 p p fun _=>O<|U p<|am<|O<|M p<|J (cD underlying99 p)<|ad<|aw p H (fun k1 H2=>O<|U p<|aj<|Z ⟨(⟨none,0,0,none⟩:Sl),p,H2⟩) fun k1 H2=>an<|O<|U p<|am<|O<|M p<|ad<|ax<|bv (step:=qI a0 K) (fun s3=>[(0,(pv a0)),(3,(sv s3.1)),(9,(.int .i64 s3.2))]) (fun s3=>[]) H2 (.cons p<|.cons p<|.cons p<|.nil _) .slnil fun Rec4 s3 _ H5=>O<|J (cn p p)<|ad<|am<|aw p H5 (fun k6 H7=>an<|am<|ax<|O<|M p<|U p<|O<|M p<|M p<|bI H7 fun q14 e8 H9=>J (aL<|aJ p<|ar e8)<|J (ae fld_153_0 p)<|ji H9 fun h10 H11=>J (bD arr_151 p p h10)<|aa<|hG H11 ag_150 p (fun _=>p) p fun x17 H12=>M p<|ad<|ax<|bv (step:=qH Rec4 s3 x17) (fun s13=>[(0,(pv a0)),(3,(sv s13.1)),(9,(.int .i64 s3.2)),(17,(.agg (jG.C x17).toArray)),(18,(.int .i64 s13.2))]) (fun s13=>[]) H12 (.cons p<|.cons p<|.cons p<|.cons p<|.cons p<|.nil _) .slnil fun Rec14 s13 _ H15=>O<|J (cn p p)<|ad<|am<|aw p H15 (fun k16 H17=>an<|am<|ax<|O<|aa<|aT H17 (x_index p p) p fun v20 _ H18=>aa<|aI (l:=cA.C (⟨(⟨0,0,0,0⟩:ap),0⟩:cA)) zero_149 p p fun b6=>aa<|aP (k:=0) (vs:=cA.C v20) inf_149 p p p p p p p<|ad<|aq<|M p<|J (ae rc p)<|bn (bH (k:=0) iH p p p p) p<|aa<|aT H18 (bw (vs:=[(.agg (ap.C v20.fl).toArray)]) p) p fun v24 _ H19=>aa<|aT H19 (dS p p) p fun v25 _ H20=>U p<|aq<|J (bk p p)<|M p<|ad<|cF (v25,(i64.wrap (s13.2 + 1))) H20 (.cons p<|.cons p<|.cons p<|.cons p<|.cons p<|.nil _)<|.cons _ .slnil) fun k16 H17=>bh<|aq<|J (bk p p)<|M p<|ad<|cF (s13.1,(i64.wrap (s3.2 + 1))) H17 (.cons p<|.cons p<|.cons p<|.nil _) .slnil) fun k6 H7=>bh<|O<|M p<|U p<|aj<|Z ⟨s3.1,p,H7⟩
def nD (a2:Int) (K:kT Ptr) (Rec10:kT Int) (s9:Int) (q30:Nat × Nat) (s20:Bool):hT:=br s20 ( K (some (q30.1,q30.2 + 0 + Int.toNat (a2.tmod 4) * 10 + Int.toNat s9 * 5))) ( Rec10 (i64.wrap (s9 + 1)))
def vY (a0:Ptr) (a1:Int) (a2:Int) (K:kT Ptr) (Rec10:kT Int) (s9:Int):hT:=br (decide (s9 < 2)) ( nn a0 fun q30=>gd (0 <= (a2.tmod 4)/\(a2.tmod 4) < 4)<|gd (0 <= s9/\s9 < 2)<|ld (q30.1,q30.2 + 0 + Int.toNat (a2.tmod 4) * 10 + Int.toNat s9 * 5 + 0 + 0) (cI .i64) fun x38=>br (x38 == a1) ( ld (q30.1,q30.2 + 0 + Int.toNat (a2.tmod 4) * 10 + Int.toNat s9 * 5 + 0 + 1) (cI .i64) fun x46=>nD a2 K Rec10 s9 q30 (x46 == a2)) ( nD a2 K Rec10 s9 q30 false)) ( K none)
def sh_tlb_Tlb_at (a0:Ptr) (a1:Int) (a2:Int) (K:kT Ptr):hT:=br (((a0.isNone || (decide (a1 < 0))) || (decide (a2 < 0))) || (decide (a2 >= 8))) ( K none) ( Lp (vY a0 a1 a2 K) 0)
theorem sim_tlb_Tlb_at (a0:Ptr) (a1:Int) (a2:Int) {K:kT Ptr} {h:Hp} (H:sh_tlb_Tlb_at a0 a1 a2 K h):cl prog pN [(pv a0),(.int .i64 a1),(.int .i64 a2)] kE K h:=z_i func113 p p fun _=>O<|U p<|am<|O<|M p<|J (cD underlying99 p)<|M p<|W p p (aN _) (fun g1=>wv<|ai p)<|W p p (aN _) (fun g2=>wv<|cn (aD p g2) p)<|J (dC p p)<|M p<|W p p (aN _) (fun g3=>wv<|ai p)<|W p p (aN _) (fun g4=>wv<|cn (aD p g4) p)<|J (dC p p)<|M p<|W p p (aN _) (fun g5=>wv<|ai p)<|W p p (aN _) (fun g6=>wv<|kx (aD p g6) p)<|J (dC p p)<|ad<|aw p H (fun k7 H8=>O<|U p<|aj<|Z ⟨none,p,H8⟩) fun k7 H8=>an<|am<|O<|M p<|ad<|ax<|bv (step:=vY a0 a1 a2 K) (fun s9=>[(0,(pv a0)),(1,(.int .i64 a1)),(2,(.int .i64 a2)),(23,(.int .i64 s9))]) (fun s9=>[]) H8 (.cons p<|.cons p<|.cons p<|.cons p<|.nil _) .slnil fun Rec10 s9 _ H11=>O<|J (cn p p)<|ad<|am<|aw p H11 (fun k12 H13=>an<|am<|ax<|O<|M p<|U p<|O<|M p<|M p<|J (v_rem p p (by decide))<|M p<|bI H13 fun q30 e14 H15=>J (aL<|aJ p<|ar e14)<|J (ae fld_153_0 p)<|ji H15 fun h16 H17=>J (bD arr_151 p p h16)<|ji H17 fun h18 H19=>J (bD arr_150 p p h18)<|U p<|eu (nD a2 K Rec10 s9 q30) (fun s20=>[(0,(pv a0)),(1,(.int .i64 a1)),(2,(.int .i64 a2)),(8,(.pointer (some ⟨q30.1,q30.2 + 0 + Int.toNat (a2.tmod 4) * 10 + Int.toNat s9 * 5,none⟩))),(23,(.int .i64 s9)),(49,(.bool s20))]) (fun s20=>[]) (aq<|M p<|J (aL p)<|J (ae rc p)<|J (ae lf p)<|aa<|aW H19 bc p (fun _=>p) p fun x38 H24=>M p<|J (bP p p)<|M p<|W p p (ay _) (fun g25=>wv<|ai p)<|W p p (ay _) (fun g26=>wv<|aL<|aD p g26)<|W p p (ay _) (fun g27=>wv<|ae rc<|aD p g27)<|W p p (ay _) (fun g28=>wv<|ae nN<|aD p g28)<|bW H24 (fun k30 H31=>G (F k30)<|aW H31 bc (aD p k30) (fun _=>p) p fun x46 H32=>G (F k30)<|z_p (ai p)<|G (F k30)<|z_p (bP p p)<|J (aU p k30 p)<|ad<|cE (x46 == a2) H32 (.cons p<|.cons p<|.cons p<|.cons p<|.cons p<|.cons p<|.nil _) .slnil) fun k30 H31=>Y (aS k30)<|Y (aS k30)<|Y (aS k30)<|J (au p k30 p)<|ad<|cE false H31 (.cons p<|.cons p<|.cons p<|.cons p<|.cons p<|.cons p<|.nil _) .slnil) fun s20 _ H21=>aw p H21 (fun k22 H23=>O<|M p<|U p<|aj<|Z ⟨some (q30.1,q30.2 + 0 + Int.toNat (a2.tmod 4) * 10 + Int.toNat s9 * 5),p,H23⟩) fun k22 H23=>an<|aq<|J (bk p p)<|M p<|ad<|cF (i64.wrap (s9 + 1)) H23 (.cons p<|.cons p<|.cons p<|.cons p<|.nil _) .slnil) fun k12 H13=>bh<|O<|U p<|aj<|Z ⟨none,p,H13⟩
def wK (a0:Ptr) (a1:Int) (a2:Int) (K:kT Bool):hT:=cl prog pN [(pv a0),(.int .i64 a1),(.int .i64 a2)] kE fun r11=>br r11.isNone ( K false) ( nn r11 fun q16=>st (q16.1,q16.2 + 0) (ap.C gA)<|K true)
theorem sim_tlb_Tlb_Flush (a0:Ptr) (a1:Int) (a2:Int) {K:kT Bool} {h:Hp} (H:wK a0 a1 a2 K h):cl prog nS [(pv a0),(.int .i64 a1),(.int .i64 a2)] aC K h:=z_i func69 p p fun _=>O<|U p<|O<|M p<|M p<|M p<|aa<|D H en_113 fun r11 _ H1=>U p<|am<|O<|M p<|J (cD underlying169 p)<|ad<|aw p H1 (fun k2 H3=>O<|U p<|aj<|Z ⟨false,p,H3⟩) fun k2 H3=>an<|O<|M p<|aa<|cW (vs:=[]) (bC<|ct_tlb_empty _) en_114 p p<|bI H3 fun q16 e4 H5=>J (aL<|aJ p<|ar e4)<|J (ae rc p)<|aa<|dv gf p p p p p H5 fun _ H6=>ad<|O<|U p<|aj<|Z ⟨true,p,H6⟩
def sh_tlb_Tlb_Find (a0:Ptr) (a1:Int) (a2:Int) (K:kT (ap × Bool)):hT:=cl prog pN [(pv a0),(.int .i64 a1),(.int .i64 a2)] kE fun r12=>br r12.isNone ( K ((⟨0,0,0,0⟩:ap),false)) ( nn r12 fun q17=>ld (q17.1,q17.2 + 0) ap.C fun x19=>K (x19,true))
theorem sim_tlb_Tlb_Find (a0:Ptr) (a1:Int) (a2:Int) {K:kT (ap × Bool)} {h:Hp} (H:sh_tlb_Tlb_Find a0 a1 a2 K h):cl prog pO [(pv a0),(.int .i64 a1),(.int .i64 a2)] gc K h:=z_i func119 p p fun _=>O<|aa<|aI (l:=ap.C (⟨0,0,0,0⟩:ap)) lK p p fun b6=>U p<|O<|M p<|M p<|M p<|aa<|D H en_113 fun r12 _ H1=>U p<|am<|O<|M p<|J (cD underlying169 p)<|ad<|aw p H1 (fun k2 H3=>O<|J (aZ (vs:=[]) p mG)<|aa<|aP (k:=0) (vs:=ap.C (⟨0,0,0,0⟩:ap)) gf p p p p p p p<|U p<|aj<|bB (bR p (bG (k:=0) p iH p p)<|cd p) ⟨((⟨0,0,0,0⟩:ap),false),p,H3⟩) fun k2 H3=>an<|O<|M p<|bI H3 fun q17 e4 H5=>J (aL<|aJ p<|ar e4)<|J (ae rc p)<|aa<|hG H5 iH p (fun _=>p) p fun x19 H6=>aa<|aP (k:=0) (vs:=ap.C x19) gf p p p p p p p<|U p<|aj<|bB (bR p (bG (k:=0) p iH p p)<|cd p) ⟨(x19,true),p,H6⟩
def rV (a0:Ptr) (a1:Int) (K:kT Ptr) (Rec2:kT (Ptr × Int)) (s1:Ptr × Int):hT:=br (decide (s1.2 < 2)) ( nn a0 fun q14=>gd (0 <= a1/\a1 < 4)<|gd (0 <= s1.2/\s1.2 < 2)<|ld (q14.1,q14.2 + 0 + Int.toNat a1 * 10 + Int.toNat s1.2 * 5 + 0 + 0) (cI .i64) fun x22=>br (decide (x22 < 0)) ( K (some (q14.1,q14.2 + 0 + Int.toNat a1 * 10 + Int.toNat s1.2 * 5))) ( br s1.1.isNone ( Rec2 ((some (q14.1,q14.2 + 0 + Int.toNat a1 * 10 + Int.toNat s1.2 * 5)),(i64.wrap (s1.2 + 1)))) ( nn s1.1 fun q33=>ld (q14.1,q14.2 + 0 + Int.toNat a1 * 10 + Int.toNat s1.2 * 5 + 4) (cI .i64) fun x31=>ld (q33.1,q33.2 + 4) (cI .i64) fun x35=>br (decide (x31 < x35)) ( Rec2 ((some (q14.1,q14.2 + 0 + Int.toNat a1 * 10 + Int.toNat s1.2 * 5)),(i64.wrap (s1.2 + 1)))) ( Rec2 (s1.1,(i64.wrap (s1.2 + 1))))))) ( K s1.1)
def sh_tlb_Tlb_room (a0:Ptr) (a1:Int) (K:kT Ptr):hT:=Lp (rV a0 a1 K) (none,0)
theorem sim_tlb_Tlb_room (a0:Ptr) (a1:Int) {K:kT Ptr} {h:Hp} (H:sh_tlb_Tlb_room a0 a1 K h):cl prog ui [(pv a0),(.int .i64 a1)] kE K h:=z_i func153 p p fun _=>O<|U p<|O<|U p<|am<|O<|M p<|ad<|ax<|bv (step:=rV a0 a1 K) (fun s1=>[(0,(pv a0)),(1,(.int .i64 a1)),(5,(pv s1.1)),(8,(.int .i64 s1.2))]) (fun s1=>[]) H (.cons p<|.cons p<|.cons p<|.cons p<|.nil _) .slnil fun Rec2 s1 _ H3=>O<|J (cn p p)<|ad<|am<|aw p H3 (fun k4 H5=>an<|am<|ax<|O<|M p<|U p<|O<|M p<|M p<|M p<|bI H5 fun q14 e6 H7=>J (aL<|aJ p<|ar e6)<|J (ae fld_153_0 p)<|ji H7 fun h8 H9=>J (bD arr_151 p p h8)<|ji H9 fun h10 H11=>J (bD arr_150 p p h10)<|U p<|am<|O<|M p<|J (aL p)<|J (ae rc p)<|J (ae lf p)<|aa<|aW H11 bc p (fun _=>p) p fun x22 H12=>J (cn p p)<|ad<|aw p H12 (fun k13 H14=>O<|M p<|U p<|aj<|Z ⟨some (q14.1,q14.2 + 0 + Int.toNat a1 * 10 + Int.toNat s1.2 * 5),p,H14⟩) fun k13 H14=>an<|am<|bo (n:=13) [] cu p .slnil<|V 0 p (ai p)<|V 1 p (cD underlying169 p)<|V 2 p (ai p)<|ox H14 (fun k15 H16=>z_f 3 p (cf k15)<|z_f 4 p (cf k15)<|z_f 5 p (cf k15)<|z_f 6 p (cf k15)<|z_f 7 p (cf k15)<|z_f 8 p (cf k15)<|z_f 9 p (cf k15)<|z_f 10 p (cf k15)<|z_f 11 p (cf k15)<|V 12 p (aU p k15 p)<|aR (by kernel_rfl)<|ny p p<|aq<|M p<|U p<|aq<|J (bk p p)<|M p<|ad<|cF ((some (q14.1,q14.2 + 0 + Int.toNat a1 * 10 + Int.toNat s1.2 * 5)),(i64.wrap (s1.2 + 1))) H16 (.cons p<|.cons p<|.cons p<|.cons p<|.nil _) .slnil) fun k15 H16=>z_n 3 p (F k15) (ve<|ai p)<|z_n 4 p (F k15) (ve<|aL p)<|z_n 5 p (F k15) (ve<|ae fld_149_1 p)<|z_n 7 p (F k15) (ve<|ai p)<|iy H16 fun q33 e17 H18=>z_n 8 p (F k15) (ve<|aL<|aJ p<|ar e17)<|z_n 9 p (F k15) (ve<|ae fld_149_1 p)<|ni (i:=6) (fun _ _ _ _ hh=>hh) H18 p (by kernel_rfl) p p p (F k15) bc p (fun _=>p) p fun x31 H19=>ni (i:=10) (fun _ _ _ _ hh=>hh) H19 p (by kernel_rfl) p p p (F k15) bc p (fun _=>p) p fun x35 H20=>z_n 11 p (F k15) (ve<|cn p p)<|V 12 p (au p k15 p)<|aR (by kernel_rfl)<|aw p H20 (fun k21 H22=>aq<|M p<|U p<|aq<|J (bk p p)<|M p<|ad<|cF ((some (q14.1,q14.2 + 0 + Int.toNat a1 * 10 + Int.toNat s1.2 * 5)),(i64.wrap (s1.2 + 1))) H22 (.cons p<|.cons p<|.cons p<|.cons p<|.nil _) .slnil) fun k21 H22=>an<|aq<|J (bk p p)<|M p<|ad<|cF (s1.1,(i64.wrap (s1.2 + 1))) H22 (.cons p<|.cons p<|.cons p<|.cons p<|.nil _) .slnil) fun k4 H5=>bh<|O<|M p<|U p<|aj<|Z ⟨s1.1,p,H5⟩
def kX (a0:Ptr) (a1:ap) (K:kT Bool) (s24:Ptr):hT:=nn a0 fun q60=>ld (q60.1,q60.2 + 40) (cI .i64) fun x62=>st (q60.1,q60.2 + 40) [.int .i64 (i64.wrap (x62 + 1))]<|ld (q60.1,q60.2 + 40) (cI .i64) fun x71=>nn s24 fun q73=>st (q73.1,q73.2) (cA.C (⟨a1,x71⟩:cA))<|K true
def sh_tlb_Tlb_Fill (a0:Ptr) (a1:ap) (K:kT Bool):hT:=br ((a0.isNone || ((((((decide (a1.fCa < 0)) || (decide (a1.fCa >= 4))) || (decide (a1.fOa < 0))) || (decide (a1.fOa >= 8))) || (decide (a1.fEa < 0))) || (decide (a1.fEa >= 16)))) || (!(ch a1.fBa))) ( K false) ( cl prog pN [(pv a0),(.int .i64 a1.fCa),(.int .i64 a1.fOa)] kE fun r51=>br r51.isNone ( cl prog ui [(pv a0),(.int .i64 (a1.fOa.tmod 4))] kE fun r58=>kX a0 a1 K r58) ( kX a0 a1 K r51))
theorem sim_tlb_Tlb_Fill (a0:Ptr) (a1:ap) {K:kT Bool} {h:Hp} (H:sh_tlb_Tlb_Fill a0 a1 K h):cl prog pP [(pv a0),(.agg (ap.C a1).toArray)] aC K h:=z_i func122 p p fun _=>O<|aa<|cX (l:=ap.C a1) p p p fun b3=>U p<|O<|J (ae lf p)<|bn (be (k:=0) bc p p p) p<|J (cn p p)<|M p<|W p p (aN _) (fun g1=>wv<|ae lf p)<|W p p (aN _) (fun g2=>cv<|be (k:=0) bc (aD p g2) p p)<|W p p (aN _) (fun g3=>wv<|kx (aD p g3) p)<|J (dC p p)<|M p<|W p p (aN _) (fun g4=>wv<|ae nN p)<|W p p (aN _) (fun g5=>cv<|be (k:=0) bc (aD p g5) p p)<|W p p (aN _) (fun g6=>wv<|cn (aD p g6) p)<|J (dC p p)<|M p<|W p p (aN _) (fun g7=>wv<|ae nN p)<|W p p (aN _) (fun g8=>cv<|be (k:=0) bc (aD p g8) p p)<|W p p (aN _) (fun g9=>wv<|kx (aD p g9) p)<|J (dC p p)<|M p<|W p p (aN _) (fun g10=>wv<|ae mB p)<|W p p (aN _) (fun g11=>cv<|be (k:=0) bc (aD p g11) p p)<|W p p (aN _) (fun g12=>wv<|cn (aD p g12) p)<|J (dC p p)<|M p<|W p p (aN _) (fun g13=>wv<|ae mB p)<|W p p (aN _) (fun g14=>cv<|be (k:=0) bc (aD p g14) p p)<|W p p (aN _) (fun g15=>wv<|kx (aD p g15) p)<|J (dC p p)<|U p<|am<|O<|M p<|J (cD underlying99 p)<|M p<|W p p (aN _) (fun g16=>wv<|ai p)<|J (dC p p)<|M p<|W p p (aN _) (fun g17=>wv<|ae rR p)<|W p p (aN _) (fun g18=>cv<|be (k:=0) bc (aD p g18) p p)<|dm (vs:=[(.int .i64 a1.fBa)]) p p p (aN _) (fun g19=>bC<|re a1.fBa _) en_112 (fun g19=>aV (aD p g19) bU) p<|W p p (aN _) (fun g20=>wv<|cy<|aD p g20)<|J (dC p p)<|ad<|aw p H (fun k21 H22=>O<|U p<|aj<|Z ⟨false,p,H22⟩) fun k21 H22=>an<|O<|M p<|J (ae lf p)<|bn (be (k:=0) bc p p p) p<|J (ae nN p)<|bn (be (k:=0) bc p p p) p<|aa<|D H22 en_113 fun r51 _ H23=>U p<|eu (kX a0 a1 K) (fun s24=>[(0,(pv a0)),(3,(.pointer (some ⟨b3,0,none⟩))),(6,(pv s24))]) (fun s24=>[bx b3 38 (ap.C a1)]) (O<|M p<|J (cD underlying169 p)<|ad<|aw p H23 (fun k34 H35=>aq<|M p<|J (ae nN p)<|bn (be (k:=0) bc p p p) p<|J (v_rem p p (by decide))<|aa<|D H35 en_153 fun r58 _ H36=>U p<|cE r58 H36 (.cons p<|.cons p<|.cons p<|.nil _)<|.cons_cons _ .slnil) fun k34 H35=>an<|cE r51 H35 (.cons p<|.cons p<|.cons p<|.nil _)<|.cons_cons _ .slnil) fun s24 _ H25=>O<|M p<|bI H25 fun q60 e26 H27=>J (aL<|aJ p<|ar e26)<|J (ae fld_153_1 p)<|aa<|aW H27 bc p (fun _=>p) p fun x62 H28=>J (bk p p)<|J (aL<|aJ p<|ar e26)<|J (ae fld_153_1 p)<|aa<|dv mw p p p p p H28 fun _ H29=>ad<|am<|bo (n:=9) [bx b3 38 (ap.C a1)] cu p (.cons_cons _ .slnil)<|V 0 p (ai p)<|z_E 1 p (eK (k:=0) iH p p p p)<|V 2 p (ai<|aJ p<|ar e26)<|V 3 p (aL p)<|V 4 p (ae fld_153_1 p)<|bz (i:=5) (fun _ _ _ _ hh=>hh) H29 p (by kernel_rfl) bc p (fun _=>p) p fun x71 H30=>V 6 p (aZ p<|build_149_0_1 a1 x71)<|iy H30 fun q73 e31 H32=>V 7 p (aL<|aJ p<|ar e31)<|I 8 p<|dv inf_149 p p p p p H32 fun _ H33=>⟨.cons_cons _ .slnil,aR (by kernel_rfl)<|O<|U p<|aj<|Z ⟨true,p,H33⟩⟩
def qJ (a0:Ptr) (Rec4:kT Int) (s3:Int) (Rec9:kT Int) (s8:Int):hT:=br (decide (s8 < 2)) ( nn a0 fun q16=>gd (0 <= s3/\s3 < 4)<|gd (0 <= s8/\s8 < 2)<|st (q16.1,q16.2 + 0 + Int.toNat s3 * 10 + Int.toNat s8 * 5 + 0) (ap.C gA)<|Rec9 (i64.wrap (s8 + 1))) ( Rec4 (i64.wrap (s3 + 1)))
def qK (a0:Ptr) (K:kT Unit) (Rec4:kT Int) (s3:Int):hT:=br (decide (s3 < 4)) ( Lp (qJ a0 Rec4 s3) 0) ( K ())
def wL (a0:Ptr) (K:kT Unit):hT:=br a0.isNone ( K ()) ( Lp (qK a0 K) 0)
theorem sim_tlb_Tlb_Clear (a0:Ptr) {K:kT Unit} {h:Hp} (H:wL a0 K h):cl prog sg [(pv a0)] R_ K h:=z_i func95 p p fun _=>am<|O<|M p<|J (cD underlying99 p)<|ad<|aw p H (fun k1 H2=>aj<|bB (wV p) ⟨(),p,H2⟩) fun k1 H2=>an<|O<|M p<|ad<|ax<|bv (step:=qK a0 K) (fun s3=>[(0,(pv a0)),(6,(.int .i64 s3))]) (fun s3=>[]) H2 (.cons p<|.cons p<|.nil _) .slnil fun Rec4 s3 _ H5=>O<|J (cn p p)<|ad<|am<|aw p H5 (fun k6 H7=>an<|am<|ax<|O<|M p<|U p<|O<|M p<|ad<|ax<|bv (step:=qJ a0 Rec4 s3) (fun s8=>[(0,(pv a0)),(2,(.int .i64 s3)),(6,(.int .i64 s3)),(9,(.int .i64 s8))]) (fun s8=>[]) H7 (.cons p<|.cons p<|.cons p<|.cons p<|.nil _) .slnil fun Rec9 s8 _ H10=>O<|J (cn p p)<|ad<|am<|aw p H10 (fun k11 H12=>an<|am<|ax<|O<|M p<|U p<|bo (n:=10) [] cu p .slnil<|V 0 p (ai p)<|V 1 p (ai p)<|V 2 p (ai p)<|iy H12 fun q16 e13 H14=>V 4 p (aL<|aJ p<|ar e13)<|V 5 p (ae fld_153_0 p)<|eva_gd H14 fun h15 H16=>V 6 p (bD arr_151 p p h15)<|I 3 p<|cW (vs:=[]) (bC<|ct_tlb_empty _) en_114 p p ⟨.slnil,eva_gd H16 fun h17 H18=>V 7 p (bD arr_150 p p h17)<|V 8 p (ae rc p)<|I 9 p<|dv gf p p p p p H18 fun _ H19=>⟨.slnil,aR (by kernel_rfl)<|aq<|J (bk p p)<|M p<|ad<|cF (i64.wrap (s8 + 1)) H19 (.cons p<|.cons p<|.cons p<|.cons p<|.nil _) .slnil⟩⟩) fun k11 H12=>bh<|aq<|J (bk p p)<|M p<|ad<|cF (i64.wrap (s3 + 1)) H12 (.cons p<|.cons p<|.nil _) .slnil) fun k6 H7=>bh<|end_i (wV p) ⟨(),p,H7⟩
def sh_tlb_New (K:kT Ptr):hT:=hpv prog (Instr.build qL #[]) encL fun (v2:(List Value))=>nw qL v2 fun b3=>cl prog sg [(.pointer (some ⟨b3,0,none⟩))] R_ fun (_:Unit)=>K (some (b3,0))
theorem sim_tlb_New {K:kT Ptr} {h:Hp} (H:sh_tlb_New K h):cl prog jj [] hZ K h:=z_i func59 p p fun _=>O<|U p<|O<|aa<|aT H (x_build (vs:=[]) p) p fun v2 _ H1=>aa<|iL p p p H1 fun b3 _ H2=>U p<|O<|M p<|aa<|D H2 en_95 fun r5 _ H3=>ad<|O<|M p<|U p<|aj<|Z ⟨some (b3,0),p,H3⟩
end
end Go.Proofs.YtochchocdckegaaGreatDoor
