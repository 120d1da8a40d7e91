/- Part of the proof of: The law KernBuffers returns true for every input, and leaves its arguments as they were. -/
import Derived.Test.YtjcamacgclipiaaGreatDoorKernBuffers08
set_option linter.all false
set_option maxRecDepth 20000
set_option maxHeartbeats 4000000
namespace Go.Proofs.YtjcamacgclipiaaGreatDoor
open Go.Proofs.Tryz
open Go.IntKind (i64 u64)
open _root_.Int (toNat_natCast)
open _root_.List (cons_append getD_eq_getElem?_getD getElem?_eq_getElem getElem?_set getElem_mem mem_cons range replicate take_length)
open _root_.Nat (le_refl zero_le)
section
open Go Mb
theorem may3 {r:Int} (h:1 <= r/\r <= 3):r = 1\/r = 2\/r = 3:=by omega
theorem within_and {a b c:Int} (hb:1 <= b/\b <= 3) (hc:1 <= c/\c <= 3):ap a (iand .i64 b c) = true↔ap a b = true/\ap a c = true:=by
 by_cases ha:1 <= a/\a <= 3
 ·rcases may3 ha with rfl | rfl | rfl <;> rcases may3 hb with rfl | rfl | rfl <;> rcases may3 hc with rfl | rfl | rfl <;> decide
 ·constructor
  ·intro h; exact absurd (bI h).1 ha
  ·intro h; exact absurd (bI h.1).1 ha
theorem iand_le {b c:Int} (hb:1 <= b/\b <= 3) (hc:1 <= c/\c <= 3):0 <= iand .i64 b c/\iand .i64 b c <= 3:=by
 rcases may3 hb with rfl | rfl | rfl <;> rcases may3 hc with rfl | rfl | rfl <;> decide
theorem within_refl {a:Int} (h:1 <= a/\a <= 3):ap a a = true:=by rcases may3 h with rfl | rfl | rfl <;> decide
structure Cov (p:Pte) (l:io):Prop where
 f:p.fEa = l.fEa
 w:ap l.fCa p.fCa = true
theorem Cov.r {p:Pte} {l:io} (h:Cov p l):1 <= p.fCa/\p.fCa <= 3:=(bI h.w).2
theorem not_cov0 {l:io}:¬ Cov cc l:=fun h=>by have:=h.r; simp at this
structure Stay (p:PK) (e:Int) (c:bv) (a pg s r:Int):Prop where
 s7:c.e0 = 7->¬ (e = a/\c.e1 = pg)
 s8:c.e0 = 8->e = a->c.e1 = pg->ap c.e2 (fAa.get p.caps a s).fCa = true->ap r c.e2 = true
 s4:c.e0 = 4\/c.e0 = 5->PK.gz p e c a s = false
theorem Stay.keep {p p':PK} {e:Int} {c:bv} {a pg s r:Int} (h:Stay p e c a pg s r) (k:fAa.Keep p.caps p'.caps a s) (hl:p'.caps.length = p.caps.length):Stay p' e c a pg s r:=by
 refine ⟨h.s7,fun h1 h2 h3 h4=>h.s8 h1 h2 h3 (by rw [← k.g]; exact h4),fun h1=>?_⟩;have:=h.s4 h1;unfold PK.gz at this ⊢;have hh:fAa.has p'.caps a s = fAa.has p.caps a s:=by unfold fAa.has; rw [hl]
 rw [hh,k.g,k.u];exact this
theorem aft_cov {p:PK} {e:Int} {c:bv} {a pg:Int} {l:io} (ht:Tk c) (hc:Cov (PK.q p a pg) l) (hs:Stay p e c a pg (PK.q p a pg).fDa l.fCa):Cov (PK.aft p e c a pg) l/\(PK.aft p e c a pg).fDa = (PK.q p a pg).fDa:=by
 unfold PK.aft;by_cases h7:c.e0 = 7
 ·rw [if_pos h7,if_neg (hs.s7 h7)]; exact ⟨hc,rfl⟩
 ·rw [if_neg h7];by_cases h8:c.e0 = 8
  ·rw [if_pos h8];split
   ·rename_i h;obtain ⟨⟨rfl,rfl⟩,h1,h2⟩:=h;exact ⟨⟨hc.f,hs.s8 h8 rfl rfl h2⟩,rfl⟩
   ·exact ⟨hc,rfl⟩
  ·rw [if_neg h8,if_neg]
   ·exact ⟨hc,rfl⟩
   ·rintro ⟨_,h⟩;rw [hs.s4 (by unfold Tk at ht; omega)] at h;cases h
theorem at_rights {t:fAa.T} {e s:Int} (h:fAa.has t e s = true):(fAa.at_ t e s).1.fCa = (fAa.get t e s).fCa:=by
 unfold fAa.at_;by_cases hr:(fAa.get t e s).fCa ≠ 0
 ·rw [if_pos ⟨h,hr⟩]
 ·rw [if_neg (fun x=>hr x.2)];have:(fAa.get t e s).fCa = 0:=by simpa using hr
  rw [this]
structure Teller (n:Int) (x:KC):Prop where
 t:Tk x.fc
 k:Word.check x.fc n = 0
 w:Cw x.fc
theorem left_cov {p:PK} {x:KC} {a pg:Int} {l:io} {qq:Pte} (hn:1 <= p.s.fHa/\p.s.fHa <= 4) (T:Teller p.s.fHa x) (hb:fAa.has p.caps a qq.fDa = true) (hq:1 <= qq.fCa/\qq.fCa <= 3) :
  (Cov (KK.left p x a pg qq) l↔Cov qq l/\Stay p x.fFa x.fc a pg qq.fDa l.fCa)/\((KK.left p x a pg qq).fCa ≠ 0->(KK.left p x a pg qq).fDa = qq.fDa/\1 <= (KK.left p x a pg qq).fCa/\(KK.left p x a pg qq).fCa <= 3):=by
 have w:=qn hn.1 hn.2 T.k;have ht:=T.t;have h1:i64.wrap x.fc.e1 = x.fc.e1:=kwr T.w.c1 (by have:=w.w1 (by unfold Tk at ht; omega); omega);have hg:KK.goes p x a qq.fDa = PK.gz p x.fFa x.fc a qq.fDa:=by unfold KK.goes PK.gz; rw [h1]
 unfold KK.left;rw [h1];by_cases h7:x.fc.e0 = 7
 ·rw [if_pos h7];by_cases ho:x.fFa = a/\x.fc.e1 = pg
  ·rw [if_pos ho];refine ⟨⟨fun h=>absurd h not_cov0,fun h=>absurd ho (h.2.s7 h7)⟩,fun h=>absurd rfl h⟩
  ·rw [if_neg ho];refine ⟨⟨fun h=>⟨h,⟨fun _=>ho,fun h8=>by omega,fun h45=>by omega⟩⟩,fun h=>h.1⟩,fun _=>⟨rfl,hq⟩⟩
 ·rw [if_neg h7];by_cases h8:x.fc.e0 = 8
  ·have h5:=w.w5 h8;have h2:i64.wrap x.fc.e2 = x.fc.e2:=kwr T.w.c2 (by omega);rw [if_pos h8,h2,at_rights hb];by_cases ho:(x.fFa = a/\x.fc.e1 = pg)/\ap x.fc.e2 (fAa.get p.caps a qq.fDa).fCa = true
   ·rw [if_pos ho];have hw:=within_and (a:=l.fCa) hq h5;refine ⟨⟨fun h=>?_,fun h=>?_⟩,fun h=>⟨rfl,?_⟩⟩
    ·have h3:=hw.1 h.w;exact ⟨⟨h.f,h3.1⟩,⟨fun h=>by omega,fun _ _ _ _=>h3.2,fun h=>by omega⟩⟩
    ·exact ⟨h.1.f,hw.2 ⟨h.1.w,h.2.s8 h8 ho.1.1 ho.1.2 ho.2⟩⟩
    ·have h6:=iand_le hq h5;have h:iand .i64 qq.fCa x.fc.e2 ≠ 0:=h;show 1 <= iand .i64 qq.fCa x.fc.e2/\iand .i64 qq.fCa x.fc.e2 <= 3;omega
   ·rw [if_neg ho];exact ⟨⟨fun h=>⟨h,⟨fun h=>by omega,fun _ a1 a2 a3=>absurd ⟨⟨a1,a2⟩,a3⟩ ho,fun h=>by omega⟩⟩,fun h=>h.1⟩,fun _=>⟨rfl,hq⟩⟩
  ·rw [if_neg h8,hg];by_cases ho:PK.gz p x.fFa x.fc a qq.fDa = true
   ·rw [if_pos ho];refine ⟨⟨fun h=>absurd h not_cov0,fun h=>?_⟩,fun h=>absurd rfl h⟩;have:=h.2.s4 (by unfold Tk at ht; omega);rw [this] at ho; cases ho
   ·rw [if_neg ho];exact ⟨⟨fun h=>⟨h,⟨fun h=>by omega,fun h=>by omega,fun _=>by simpa using ho⟩⟩,fun h=>h.1⟩,fun _=>⟨rfl,hq⟩⟩
theorem sC {p:PK} {a pg:Int} {l:io} (hn:1 <= p.s.fHa/\p.s.fHa <= 4):∀ (cs:List (Option KC)) (b:Bool) (qq:Pte),(∀ x,some x ∈ cs->x.fQa = true->Teller p.s.fHa x)->(b = true->fAa.has p.caps a qq.fDa = true/\1 <= qq.fCa/\qq.fCa <= 3) ->
  (((KK.fDb p a pg cs b qq).2 = true/\Cov (KK.fDb p a pg cs b qq).1 l)↔(b = true/\Cov qq l/\∀ x,some x ∈ cs->x.fQa = true->Stay p x.fFa x.fc a pg qq.fDa l.fCa))
 | [],b,qq,_,_=>by simp [KK.fDb]
 | none::cs,b,qq,hT,hb=>by
  rw [KK.fDb,sC hn cs b qq (fun x hx=>hT x (by simp [hx])) hb];simp
 | some x::cs,b,qq,hT,hb=>by
  rw [KK.fDb];by_cases hc:b = true/\x.fQa = true
  ·rw [if_pos hc];obtain ⟨b1,b2⟩:=hb hc.1;obtain ⟨L1,L2⟩:=left_cov (l:=l) (pg:=pg) hn (hT x (by simp) hc.2) b1 b2;have ih:=sC (l:=l) (pg:=pg) hn cs ((KK.left p x a pg qq).fCa != 0) (KK.left p x a pg qq) (fun y hy=>hT y (by simp [hy])) (fun h=>by
    have:=L2 (by simpa using h);rw [this.1]; exact ⟨b1,this.2⟩)
   rw [ih,L1];constructor
   ·rintro ⟨h1,h2,h3⟩;have:=(L2 (by simpa using h1)).1;refine ⟨hc.1,h2.1,fun y hy hty=>?_⟩;rcases mem_cons.1 hy with hy | hy
    ·cases hy; exact h2.2
    ·rw [← this]; exact h3 y hy hty
   ·rintro ⟨_,h2,h3⟩;have hx:=h3 x (by simp) hc.2;have hcov:=L1.2 ⟨h2,hx⟩;have hne:(KK.left p x a pg qq).fCa ≠ 0:=by have:=hcov.r; omega
    refine ⟨by simpa using hne,⟨h2,hx⟩,fun y hy hty=>?_⟩;rw [(L2 hne).1]; exact h3 y (by simp [hy]) hty
  ·rw [if_neg hc,sC hn cs b qq (fun y hy=>hT y (by simp [hy])) hb];constructor
   ·rintro ⟨h1,h2,h3⟩;refine ⟨h1,h2,fun y hy hty=>?_⟩;rcases mem_cons.1 hy with hy | hy
    ·cases hy; exact absurd ⟨h1,hty⟩ hc
    ·exact h3 y hy hty
   ·rintro ⟨h1,h2,h3⟩;exact ⟨h1,h2,fun y hy hty=>h3 y (by simp [hy]) hty⟩
def Tells (k:KK) (d:Nat) (x:KC):Prop:=k.calls[d]? = some (some x)/\x.fQa = true
def gD (k:KK) (c:Nat):Int:=k.fGa.2.getD c 0
def Hears (k:KK) (c d:Nat) (x:KC):Prop:=c = d\/x.fBb <= gD k c
def fA (k:KK) (c:Nat):Buf:=k.fMa.getD c ([],0)
structure LineOk (k:KK) (c:Nat) (l:io):Prop where
 cov:Cov (PK.q k.p l.fBa l.fPa) l
 stay:∀ d x,Tells k d x->Hears k c d x->Stay k.p x.fFa x.fc l.fBa l.fPa (PK.q k.p l.fBa l.fPa).fDa l.fCa
structure dJ (k:KK):Prop where
 ok:KK.Ok k
 F:PK.Fine k.p
 cw:∀ (d:Nat) x,k.calls[d]? = some (some x)->Cw x.fc
 told:∀ d x,Tells k d x->(Tk x.fc/\Word.check x.fc k.p.s.fHa = 0)/\1 <= x.fBb/\x.fBb <= k.fGa.1.length/\k.fGa.1[(x.fBb - 1).toNat]? = some (d:Int)
 mail:∀ c n:Nat,c < k.calls.length->n < k.fGa.1.length->k.fGa.1[n]? ≠ some (c:Int)->(n:Int) + 1 <= gD k c\/((n:Int) + 1) ∈ Mail.box k.fLa c
 hi:∀ c,gD k c <= k.fGa.1.length
 tok:∀ c,c < k.calls.length->Tlb.TOk (fA k c)
 line:∀ c,c < k.calls.length->∀ l ∈ Tlb.lines (fA k c),0 <= l.fBa->LineOk k c l
theorem dJ.teller {k:KK} (I:dJ k) {d:Nat} {x:KC} (h:Tells k d x):Teller k.p.s.fHa x:=⟨(I.told d x h).1.1,(I.told d x h).1.2,I.cw d x h.1⟩
theorem dJ.en {k:KK} (I:dJ k):1 <= k.p.s.fHa/\k.p.s.fHa <= 4:=PK.envs_of I.F.ok
theorem q_slot {p:PK} (F:PK.Fine p) {a pg:Int} (h:(PK.q p a pg).fCa ≠ 0):fAa.has p.caps a (PK.q p a pg).fDa = true/\1 <= (PK.q p a pg).fCa/\(PK.q p a pg).fCa <= 3:=by
 have:=F.by_ a pg h;exact ⟨this.1,(bI this.2.2).1⟩
theorem seen_cov {k:KK} (hn:1 <= k.p.s.fHa/\k.p.s.fHa <= 4) (F:PK.Fine k.p) (hT:∀ x,some x ∈ k.calls->x.fQa = true->Teller k.p.s.fHa x) (a pg:Int) (l:io) :
  ((KK.seen k a pg).2 = true/\Cov (KK.seen k a pg).1 l)↔(Cov (PK.q k.p a pg) l/\∀ x,some x ∈ k.calls->x.fQa = true->Stay k.p x.fFa x.fc a pg (PK.q k.p a pg).fDa l.fCa):=by
 unfold KK.seen;rw [PK.pte_snd];show ((KK.fDb k.p a pg k.calls (decide ((PK.q k.p a pg).fCa ≠ 0)) (PK.q k.p a pg)).2 = true/\Cov (KK.fDb k.p a pg k.calls (decide ((PK.q k.p a pg).fCa ≠ 0)) (PK.q k.p a pg)).1 l)↔_;rw [sC hn k.calls _ _ hT (fun h=>q_slot F (of_decide_eq_true h))];constructor
 ·rintro ⟨_,h⟩; exact h
 ·intro h;exact ⟨decide_eq_true (by have:=h.1.r; omega),h⟩
theorem not_stale {k:KK} {l:io} (h:KK.stale k l = false) (he:0 <= l.fBa):(KK.seen k l.fBa l.fPa).2 = true/\Cov (KK.seen k l.fBa l.fPa).1 l:=by
 unfold KK.stale at h;rw [decide_eq_true he,Bool.true_and] at h;simp only [Bool.or_eq_false_iff,Bool.not_eq_false',bne_eq_false_iff_eq] at h;exact ⟨h.1.1,⟨h.1.2,h.2⟩⟩
end
section
open Go Mb
theorem calls_mem {k:KK} {x:KC} (h:some x ∈ k.calls):∃ d:Nat,k.calls[d]? = some (some x):=by
 obtain ⟨i,hi,e⟩:=List.getElem_of_mem h;exact ⟨i,by rw [getElem?_eq_getElem hi,e]⟩
theorem dJ.tell_all {k:KK} (I:dJ k):∀ x,some x ∈ k.calls->x.fQa = true->Teller k.p.s.fHa x:=fun _ hx ht=>by
 obtain ⟨d,hd⟩:=calls_mem hx;exact I.teller ⟨hd,ht⟩
theorem heard_new (s:dc) (c:Nat):gD (KK.new s) c = 0:=by
 simp only [gD,KK.new,getD_eq_getElem?_getD,List.getElem?_replicate];split <;> rfl
theorem xP (s:dc) (d:Nat) (x:KC):(KK.new s).calls[d]? ≠ some (some x):=by
 simp only [KK.new,List.getElem?_replicate];split <;> simp
theorem inv_new {s:dc} (h:PK.sized s = true):dJ (KK.new s):=by
 have hbuf:∀ c,c < (KK.new s).calls.length->fA (KK.new s) c = tlb0:=fun c hc=>by
  simp only [KK.new,List.length_replicate] at hc;simp only [fA,KK.new,getD_eq_getElem?_getD,List.getElem?_replicate,if_pos hc,Option.getD_some]
 refine ⟨kok_new h,PK.fine_new h,fun d x hx=>absurd hx (xP s d x),fun d x hx=>absurd hx.1 (xP s d x),fun c n _ hn=>absurd hn (Nat.not_lt_zero _),fun c=>by rw [heard_new]; exact Int.natCast_nonneg _,fun c hc=>by rw [hbuf c hc]; exact Tlb.tok_new,fun c hc l hl he=>?_⟩;rw [hbuf c hc] at hl;obtain ⟨i,hi,rfl⟩:=(Tlb.mem_lines rfl).1 hl;have key:∀ i,i < 8->(Tlb.ln tlb0.1 i).fl.fBa = -1:=by decide
 rw [key i hi] at he;exact absurd he (by decide)
theorem dJ.same {k k':KK} (I:dJ k) (ok:KK.Ok k') (hp:k'.p = k.p) (h1:k'.fMa = k.fMa) (h2:k'.fLa = k.fLa) (h3:k'.fGa = k.fGa) (h4:k'.calls = k.calls):dJ k':=by
 obtain ⟨p,tl,bx,ep,ca,ev,no⟩:=k;obtain ⟨p',tl',bx',ep',ca',ev',no'⟩:=k';simp only at hp h1 h2 h3 h4;subst hp; subst h1; subst h2; subst h3; subst h4;exact ⟨ok,I.F,I.cw,I.told,I.mail,I.hi,I.tok,fun c hc l hl he=>⟨(I.line c hc l hl he).cov,(I.line c hc l hl he).stay⟩⟩
theorem dJ.put {k k':KK} (I:dJ k) (ok:KK.Ok k') {c:Nat} {o:Option KC} (ho:∀ x,o = some x->x.fQa = false/\Cw x.fc) (hp:k'.p = k.p) (h1:k'.fMa = k.fMa) (h2:k'.fLa = k.fLa) (h3:k'.fGa = k.fGa) (h4:k'.calls = k.calls.set c o):dJ k':=by
 obtain ⟨p,tl,bx,ep,ca,ev,no⟩:=k;obtain ⟨p',tl',bx',ep',ca',ev',no'⟩:=k';simp only at hp h1 h2 h3 h4;subst hp; subst h1; subst h2; subst h3; subst h4;have back:∀ (d:Nat) x,(ca.set c o)[d]? = some (some x)->(o = some x/\d = c)\/ca[d]? = some (some x):=by
  intro d x hx;rw [getElem?_set] at hx;split at hx
  ·rename_i e;split at hx
   ·exact .inl ⟨by simpa using hx,e.symm⟩
   ·cases hx
  ·exact .inr hx
 have backT:∀ d x,Tells ⟨p',tl',bx',ep',ca.set c o,ev',no'⟩ d x->Tells ⟨p',tl',bx',ep',ca,ev,no⟩ d x:=by
  rintro d x ⟨hx,ht⟩;rcases back d x hx with ⟨h,_⟩ | h
  ·rw [(ho x h).1] at ht; cases ht
  ·exact ⟨h,ht⟩
 refine ⟨ok,I.F,fun d x hx=>?_,fun d x hx=>I.told d x (backT d x hx),fun a n ha hn=>I.mail a n (by simpa using ha) hn,I.hi,fun a ha=>I.tok a (by simpa using ha),fun a ha l hl he=>?_⟩
 ·rcases back d x hx with ⟨h,_⟩ | h
  ·exact (ho x h).2
  ·exact I.cw d x h
 ·have L:=I.line a (by simpa using ha) l hl he;exact ⟨L.cov,fun d x hx hh=>L.stay d x (backT d x hx) hh⟩
theorem dJ.move {k:KK} (I:dJ k) {p':PK} (okp:PK.Ok p') (M:PK.Mv k.p p') (h:∀ c,c < k.calls.length->∀ l ∈ Tlb.lines (fA k c),0 <= l.fBa->Cov (PK.q p' l.fBa l.fPa) l/\(PK.q p' l.fBa l.fPa).fDa = (PK.q k.p l.fBa l.fPa).fDa):dJ { k with p:=p' }:=by
 refine ⟨kok_p I.ok okp M.s,M.fine,I.cw,fun d x hx=>by have:=I.told d x hx; exact ⟨⟨this.1.1,by show Word.check x.fc p'.s.fHa = 0; rw [M.s]; exact this.1.2⟩,this.2⟩,I.mail,I.hi,I.tok,fun c hc l hl he=>?_⟩;have L:=I.line c hc l hl he;obtain ⟨h1,h2⟩:=h c hc l hl he;refine ⟨h1,fun d x hx hh=>?_⟩;show Stay p' x.fFa x.fc l.fBa l.fPa (PK.q p' l.fBa l.fPa).fDa l.fCa;rw [h2];refine (L.stay d x hx hh).keep (M.keep _ _ (by have:=L.cov.r; omega) (by have:=h1.r; omega)) ?_;have e1:=I.F.ok.cl;have e2:=M.fine.ok.cl;rw [M.s] at e2;omega
theorem dJ.effect {k:KK} (I:dJ k) {e:Int} {c:bv} (cw:Cw c) (h:Tk c->PK.off k.p e = false->Word.check c k.p.s.fHa = 0->∀ a,a < k.calls.length->∀ l ∈ Tlb.lines (fA k a),0 <= l.fBa->Stay k.p e c l.fBa l.fPa (PK.q k.p l.fBa l.fPa).fDa l.fCa):dJ { k with p:=(PK.do_ k.p e c).2 }:=by
 obtain ⟨M,mono⟩:=PK.do_mv I.F (e:=e) cw;refine I.move M.fine.ok M fun a ha l hl he=>?_;have L:=I.line a ha l hl he;have hne:(PK.q k.p l.fBa l.fPa).fCa ≠ 0:=by have:=L.cov.r; omega
 by_cases ht:Tk c
 ·by_cases hb:PK.off k.p e = true\/Word.check c k.p.s.fHa ≠ 0
  ·rw [(PK.do_bad hb).1]; exact ⟨L.cov,rfl⟩
  ·simp only [not_or,Bool.not_eq_true,Decidable.not_not] at hb;rw [PK.do_q I.F cw hb.1 hb.2 ht];exact aft_cov ht L.cov (h ht hb.1 hb.2 a ha l hl he)
 ·rw [mono ht _ _ hne]; exact ⟨L.cov,rfl⟩
theorem dJ.touch {k:KK} (I:dJ k) (f:Int) (c:bv):dJ { k with p:=(PK.touch k.p f c).2 }:=by
 obtain ⟨M,mono⟩:=PK.mv_touch I.F f c;refine I.move M.fine.ok M fun a ha l hl he=>?_;have L:=I.line a ha l hl he;rw [mono _ _ (by have:=L.cov.r; omega)];exact ⟨L.cov,rfl⟩
theorem dJ.buf {k:KK} (I:dJ k) {c:Nat} (hc:c < k.calls.length) {b:Buf} (hb:Tlb.TOk b) (h:∀ l ∈ Tlb.lines b,0 <= l.fBa->LineOk k c l):dJ { k with fMa:=k.fMa.set c b }:=by
 have hlen:k.fMa.length = k.calls.length:=by have:=I.ok.tl; have:=I.ok.cl; omega
 have hbuf:∀ a,fA { k with fMa:=k.fMa.set c b } a = if a = c then b else fA k a:=by
  intro a;simp only [fA,getD_eq_getElem?_getD,getElem?_set];by_cases e:c = a
  ·subst e; simp [hlen,hc]
  ·rw [if_neg e,if_neg (fun h=>e h.symm)]
 refine ⟨kok_tlbs I.ok _ _,I.F,I.cw,I.told,I.mail,I.hi,fun a ha=>?_,fun a ha l hl he=>?_⟩
 ·rw [hbuf]; split
  ·exact hb
  ·exact I.tok a ha
 ·rw [hbuf] at hl;by_cases e:a = c
  ·rw [if_pos e] at hl;subst e;have L:=h l hl he;exact ⟨L.cov,L.stay⟩
  ·rw [if_neg e] at hl;have L:=I.line a ha l hl he;exact ⟨L.cov,L.stay⟩
theorem clean_lines {k:KK} (hn:1 <= k.p.s.fHa/\k.p.s.fHa <= 4) (F:PK.Fine k.p) (hT:∀ x,some x ∈ k.calls->x.fQa = true->Teller k.p.s.fHa x) {b:Buf} (hb:Tlb.TOk b):Tlb.TOk (KK.cleans k (Tlb.lines b) b)/\∀ l ∈ Tlb.lines (KK.cleans k (Tlb.lines b) b),0 <= l.fBa->l ∈ Tlb.lines b/\Cov (PK.q k.p l.fBa l.fPa) l/\∀ x,some x ∈ k.calls->x.fQa = true->Stay k.p x.fFa x.fc l.fBa l.fPa (PK.q k.p l.fBa l.fPa).fDa l.fCa:=by
 obtain ⟨h1,h2⟩:=cleans_all (k:=k) hb;refine ⟨h1,fun l hl he=>?_⟩;obtain ⟨a,s⟩:=h2 l hl he;exact ⟨a,(seen_cov hn F hT _ _ _).1 (not_stale s he)⟩
theorem tells_mem {k:KK} {d:Nat} {x:KC} (h:Tells k d x):some x ∈ k.calls:=List.mem_of_getElem? h.1
theorem jD {k:KK} {c:Int} (h:KK.is k c = true):∃ n:Nat,c = n/\n < k.calls.length:=by
 unfold KK.is at h;have:=of_decide_eq_true h;exact ⟨c.toNat,by omega,by omega⟩
theorem tO (k:KK) (n:Nat):KK.buf k n = fA k n:=by simp [KK.buf,fA]
theorem qi {k:KK} {n:Nat} {x:KC} (h:KK.call k n = some x):k.calls[n]? = some (some x):=by
 unfold KK.call at h;rw [toNat_natCast,getD_eq_getElem?_getD] at h;cases hc:k.calls[n]? with
 | none=>rw [hc] at h; cases h
 | some o=>rw [hc] at h; simp at h; rw [h]
end
section
open Go Mb
theorem empty_get (pg:Int):Table.get (replicate 8 cc) pg = (cc,false):=by
 apply Table.get_no;rintro ⟨h1,h2⟩;obtain ⟨n,rfl,hn⟩:=kJ h1;have key:∀ n,n < 8->((replicate 8 cc).getD n cc).fCa = 0:=by decide
 apply h2;unfold Table.at_;rw [toNat_natCast];exact key n hn
theorem tabFor_get (k:KK) (e pg:Int) (h:(Table.get (KK.fGb k e pg) pg).1.fCa ≠ 0):(KK.seen k e pg).2 = true/\(Table.get (KK.fGb k e pg) pg).1 = (KK.seen k e pg).1:=by
 unfold KK.fGb at h ⊢;by_cases hs:(KK.seen k e pg).2 = true
 ·rw [if_pos hs] at h ⊢;refine ⟨hs,?_⟩;by_cases hz:(Table.insert (replicate 8 cc) pg (KK.seen k e pg).1).1 = 0
  ·rw [Table.get_insert (by simp) _ _ hz,if_pos rfl]
  ·rw [Table.insert_same _ _ hz,empty_get] at h;exact absurd rfl h
 ·rw [if_neg hs,empty_get] at h;exact absurd rfl h
theorem walk_lines {b:Buf} (hb:Tlb.TOk b) (t:List Pte) (e pg kind:Int):Tlb.TOk (User.walk b t e pg kind).2/\∀ l ∈ Tlb.lines (User.walk b t e pg kind).2,0 <= l.fBa->l ∈ Tlb.lines b\/(l = ⟨e,pg,(Table.get t pg).1.fEa,(Table.get t pg).1.fCa⟩/\1 <= (Table.get t pg).1.fCa/\(Table.get t pg).1.fCa <= 3):=by
 unfold User.walk;split
 ·exact ⟨hb,fun l hl _=>.inl hl⟩
 ·split
  ·exact ⟨Tlb.tok_flush hb _ _,fun l hl he=>.inl (Tlb.lines_flush hb hl he).1⟩
  ·obtain ⟨h1,h2⟩:=Tlb.tok_fill hb ⟨e,pg,(Table.get t pg).1.fEa,(Table.get t pg).1.fCa⟩;refine ⟨h1,fun l hl he=>?_⟩;rcases h2 l hl he with ⟨rfl,hn⟩ | h
   ·refine .inr ⟨rfl,?_⟩;unfold Tlb.bad at hn;have:aS (Table.get t pg).1.fCa = true:=by
     cases hm:aS (Table.get t pg).1.fCa with
     | true=>rfl
     | false=>exact absurd (.inr (.inr (.inr (.inr (.inr (.inr hm)))))) hn
    exact oM.1 this
   ·exact .inl h
theorem dJ.access {k:KK} (I:dJ k) {c:Nat} (hc:c < k.calls.length) (x:KC):dJ (KK.access k c x).2/\(KK.access k c x).2.calls = k.calls/\(KK.access k c x).2.fGa = k.fGa:=by
 unfold KK.access;split
 ·exact ⟨I,rfl,rfl⟩
 ·have hw:=walk_lines (I.tok c hc) (KK.fGb k x.fFa (i64.wrap x.fc.e1)) x.fFa (i64.wrap x.fc.e1) (i64.wrap x.fc.e0);have I1:dJ { k with fMa:=k.fMa.set c (KK.fYa k c x).2 }:=by
   unfold KK.fYa;rw [tO];refine I.buf hc hw.1 fun l hl he=>?_;rcases hw.2 l hl he with h | ⟨rfl,h1,h2⟩
   ·exact I.line c hc l h he
   ·obtain ⟨s1,s2⟩:=tabFor_get k x.fFa (i64.wrap x.fc.e1) (by omega);have hcov:Cov (KK.seen k x.fFa (i64.wrap x.fc.e1)).1 (⟨x.fFa,i64.wrap x.fc.e1,(Table.get (KK.fGb k x.fFa (i64.wrap x.fc.e1)) (i64.wrap x.fc.e1)).1.fEa,(Table.get (KK.fGb k x.fFa (i64.wrap x.fc.e1)) (i64.wrap x.fc.e1)).1.fCa⟩:io):=by
     refine ⟨?_,?_⟩
     ·show (KK.seen k x.fFa (i64.wrap x.fc.e1)).1.fEa = (Table.get (KK.fGb k x.fFa (i64.wrap x.fc.e1)) (i64.wrap x.fc.e1)).1.fEa;rw [s2]
     ·show ap (Table.get (KK.fGb k x.fFa (i64.wrap x.fc.e1)) (i64.wrap x.fc.e1)).1.fCa (KK.seen k x.fFa (i64.wrap x.fc.e1)).1.fCa = true;rw [← s2]; exact within_refl ⟨h1,h2⟩
    obtain ⟨a1,a2⟩:=(seen_cov I.en I.F I.tell_all _ _ _).1 ⟨s1,hcov⟩;exact ⟨a1,fun d y hy _=>a2 y (tells_mem hy) hy.2⟩
  split
  ·exact ⟨I1,rfl,rfl⟩
  ·exact ⟨I1.touch _ _,rfl,rfl⟩
theorem ends_inv {k:KK} (I:dJ k) {c:Nat} (x:KC) (a:bY) (l:io):dJ (KK.ends k c x a l) :=
 I.put (kok_ends I.ok _ _ _ _) (c:=c) (o:=none) (fun _ h=>by cases h) rfl rfl rfl rfl (by simp [KK.ends])
theorem sends_box {bs:Mail.S} {f:Nat} (hf:f < bs.length) (e:Int):∀ n,n <= bs.length->∀ t:Nat,t < bs.length->Mail.box (Mail.sends bs f e n).2 t = if t < n/\t ≠ f then Mail.box bs t++[e] else Mail.box bs t
 | 0,_,t,_=>by rw [if_neg (by omega)]; rfl
 | n + 1,hn,t,ht=>by
  have ih:=sends_box hf e n (by omega) t ht;have hlen:=Mail.sends_len bs f e n;have hs:(Mail.sends bs f e (n + 1)).2 = (Mail.send (Mail.sends bs f e n).2 f n e).2:=by rw [Mail.sends]; split <;> rfl
  rw [hs];unfold Mail.send;by_cases hnf:n = f
  ·have hc:¬ (Mail.has (Mail.sends bs f e n).2 f = true/\Mail.has (Mail.sends bs f e n).2 n = true/\(f:Int) ≠ n):=fun h=>h.2.2 (by rw [hnf]);rw [if_neg hc,ih];by_cases h1:t < n/\t ≠ f
   ·rw [if_pos h1,if_pos ⟨by omega,h1.2⟩]
   ·rw [if_neg h1,if_neg (by omega)]
  ·have hc:Mail.has (Mail.sends bs f e n).2 f = true/\Mail.has (Mail.sends bs f e n).2 n = true/\(f:Int) ≠ n:=by
    unfold Mail.has;rw [hlen];exact ⟨decide_eq_true (by omega),decide_eq_true (by omega),by omega⟩
   rw [if_pos hc];have hbox:∀ v,Mail.box ((Mail.sends bs f e n).2.set (n:Int).toNat v) t = if t = n then v else Mail.box (Mail.sends bs f e n).2 t:=by
    intro v;simp only [Mail.box,toNat_natCast,getD_eq_getElem?_getD,getElem?_set];by_cases h1:n = t
    ·subst h1; simp [hlen,ht]
    ·rw [if_neg h1,if_neg (fun h=>h1 h.symm)]
   rw [hbox];by_cases h1:t = n
   ·subst h1;rw [if_pos rfl,ih,if_neg (by omega),if_pos ⟨by omega,hnf⟩]
   ·rw [if_neg h1,ih];by_cases h2:t < n/\t ≠ f
    ·rw [if_pos h2,if_pos ⟨by omega,h2.2⟩]
    ·rw [if_neg h2,if_neg (by omega)]
theorem takes_teller {p:PK} {x:KC} (h:KK.takes p x = true) (cw:Cw x.fc):Teller p.s.fHa x:=by
 unfold KK.takes at h;split at h
 ·cases h
 ·rename_i hc;simp only [not_or] at hc;exact ⟨by unfold Tk; omega,by simpa using hc.1,cw⟩
theorem dJ.tell {k:KK} (I:dJ k) (hn:(k.fGa.1.length:Int) + 1 <= k.now) {c:Nat} {x:KC} (hx:KK.call k c = some x) (hi:KK.is k c = true) (ht:KK.takes k.p x = true):dJ (KK.send (KK.clean (KK.tell k c x) c) c x):=by
 have hc:c < k.calls.length:=by obtain ⟨n,e,h⟩:=jD hi; omega
 have hcx:=qi hx;have T:=takes_teller ht (I.cw c x hcx);have okt:KK.Ok (KK.send (KK.clean (KK.tell k c x) c) c x):=by
  refine kok_send (kok_clean (kok_call I.ok c hx (y:={ x with fQa:=true }) rfl rfl) c) hn ?_ ?_
  ·exact call_set_same hx
  ·unfold KK.is at hi ⊢;show decide ((0:Int) <= c/\(c:Int) < ((k.calls.set (c:Int).toNat _).length:Int)) = true;rw [List.length_set]; exact hi
 have htT:∀ y,some y ∈ (KK.tell k c x).calls->y.fQa = true->Teller k.p.s.fHa y:=by
  intro y hy hty;rcases List.mem_or_eq_of_mem_set hy with h | h
  ·exact I.tell_all y h hty
  ·cases h; exact ⟨T.t,T.k,T.w⟩
 have hcl:=clean_lines (k:=KK.tell k c x) I.en I.F htT (b:=fA k c) (I.tok c hc);have hlen:k.fMa.length = k.calls.length:=by have:=I.ok.tl; have:=I.ok.cl; omega
 have hel:k.fGa.2.length = k.calls.length:=by have:=I.ok.el; have:=I.ok.cl; omega
 have hbl:k.fLa.length = k.calls.length:=by have:=I.ok.bl; have:=I.ok.cl; omega
 have he:fNa.begin_ k.fGa c = (((k.fGa.1.length:Int) + 1,true),(k.fGa.1++[(c:Int)],k.fGa.2)):=by
  have:fNa.is k.fGa c = true:=by unfold fNa.is; exact decide_eq_true (by omega)
  exact if_pos this
 have dh:(k.calls.set c (some { x with fQa:=true })).set c (some { x with fQa:=true,fBb:=(k.fGa.1.length:Int) + 1 }) = k.calls.set c (some { x with fQa:=true,fBb:=(k.fGa.1.length:Int) + 1 }):=List.set_set ..;have ek:KK.send (KK.clean (KK.tell k c x) c) c x = { k with fMa:=k.fMa.set c (KK.cleans (KK.tell k c x) (Tlb.lines (fA k c)) (fA k c)),fGa:=(k.fGa.1++[(c:Int)],k.fGa.2),calls:=k.calls.set c (some { x with fQa:=true,fBb:=(k.fGa.1.length:Int) + 1 }),fLa:=(Mail.sends k.fLa c ((k.fGa.1.length:Int) + 1) k.fLa.length).2 }:=by
  unfold KK.send;have e1:(KK.clean (KK.tell k c x) c).fGa = k.fGa:=rfl;rw [e1,he];unfold KK.clean;rw [tO];simp only [KK.tell,toNat_natCast,dh]
  rfl
 rw [ek] at okt ⊢;have bufs:∀ a,fA { k with fMa:=k.fMa.set c (KK.cleans (KK.tell k c x) (Tlb.lines (fA k c)) (fA k c)),fGa:=(k.fGa.1++[(c:Int)],k.fGa.2),calls:=k.calls.set c (some { x with fQa:=true,fBb:=(k.fGa.1.length:Int) + 1 }),fLa:=(Mail.sends k.fLa c ((k.fGa.1.length:Int) + 1) k.fLa.length).2 } a = if a = c then KK.cleans (KK.tell k c x) (Tlb.lines (fA k c)) (fA k c) else fA k a:=by
  intro a;simp only [fA,getD_eq_getElem?_getD,getElem?_set];by_cases e:c = a
  ·subst e; simp [hlen,hc]
  ·rw [if_neg e,if_neg (fun h=>e h.symm)]
 have back:∀ (d:Nat) y,(k.calls.set c (some { x with fQa:=true,fBb:=(k.fGa.1.length:Int) + 1 }))[d]? = some (some y)->(y = { x with fQa:=true,fBb:=(k.fGa.1.length:Int) + 1 }/\d = c)\/(d ≠ c/\k.calls[d]? = some (some y)):=by
  intro d y hy;rw [getElem?_set] at hy;split at hy
  ·rename_i e;exact .inl ⟨by simpa using hy.symm,e.symm⟩
  ·rename_i e;exact .inr ⟨fun h=>e h.symm,hy⟩
 refine ⟨okt,I.F,fun d y hy=>?_,fun d y hy=>?_,fun a n ha hn hne=>?_,fun a=>?_,fun a ha=>?_,fun a ha l hl hle=>?_⟩
 ·rcases back d y hy with ⟨rfl,_⟩ | ⟨_,h⟩
  ·exact T.w
  ·exact I.cw d y h
 ·rcases back d y hy.1 with ⟨rfl,rfl⟩ | ⟨_,h⟩
  ·refine ⟨⟨T.t,T.k⟩,by show (1:Int) <= (k.fGa.1.length:Int) + 1; omega,by simp,?_⟩;show (k.fGa.1++[(d:Int)])[((k.fGa.1.length:Int) + 1 - 1).toNat]? = some (d:Int);rw [show ((k.fGa.1.length:Int) + 1 - 1).toNat = k.fGa.1.length from by omega];simp
  ·have:=I.told d y ⟨h,hy.2⟩;refine ⟨this.1,this.2.1,by simp; omega,?_⟩;show (k.fGa.1++[(c:Int)])[(y.fBb - 1).toNat]? = some (d:Int);rw [List.getElem?_append_left (by omega)];exact this.2.2.2
 ·have ha':a < k.calls.length:=by simpa using ha
  have hbx:=sends_box (bs:=k.fLa) (f:=c) (by omega) ((k.fGa.1.length:Int) + 1) k.fLa.length (le_refl _) a (by omega);show (n:Int) + 1 <= gD k a\/((n:Int) + 1) ∈ Mail.box (Mail.sends k.fLa c ((k.fGa.1.length:Int) + 1) k.fLa.length).2 a;rw [hbx];simp only [List.length_append,List.length_singleton] at hn;by_cases hnl:n < k.fGa.1.length
  ·rw [List.getElem?_append_left hnl] at hne;rcases I.mail a n ha' hnl hne with h | h
   ·exact .inl h
   ·refine .inr ?_;split
    ·exact List.mem_append_left _ h
    ·exact h
  ·have hn2:n = k.fGa.1.length:=by omega
   subst hn2;have hac:a ≠ c:=by
    rintro rfl;apply hne;show (k.fGa.1++[(a:Int)])[k.fGa.1.length]? = _;simp
   rw [if_pos ⟨by omega,hac⟩];exact .inr (by simp)
 ·have:=I.hi a;show gD k a <= _;simp; omega
 ·rw [bufs]; split
  ·exact hcl.1
  ·exact I.tok a (by simpa using ha)
 ·have ha':a < k.calls.length:=by simpa using ha
  rw [bufs] at hl;by_cases e:a = c
  ·rw [if_pos e] at hl;obtain ⟨_,c1,c2⟩:=hcl.2 l hl hle;refine ⟨c1,fun d y hy _=>?_⟩;rcases back d y hy.1 with ⟨rfl,_⟩ | ⟨hd,h⟩
   ·exact c2 { x with fQa:=true } (by simp only [KK.tell,toNat_natCast]; exact List.mem_set hc _) rfl
   ·refine c2 y ?_ hy.2;simp only [KK.tell,toNat_natCast];exact List.mem_of_getElem? (i:=d) (by rw [getElem?_set,if_neg (fun h=>hd h.symm)]; exact h)
  ·rw [if_neg e] at hl;have L:=I.line a ha' l hl hle;refine ⟨L.cov,fun d y hy hh=>?_⟩;rcases back d y hy.1 with ⟨rfl,rfl⟩ | ⟨_,h⟩
   ·exfalso
    rcases hh with hh | hh
    ·exact e hh
    ·have:=I.hi a;have hh':(k.fGa.1.length:Int) + 1 <= gD k a:=hh;omega
   ·exact L.stay d y ⟨h,hy.2⟩ hh
end
section
open Go Mb
theorem waitsFrom_nil {n o:Int}:∀ {l:List Int} {i:Int},fNa.fIb n o l i = []->∀ (j:Nat) (a:Int),l[j]? = some a->o ≠ i + j->n <= a
 | [],_,_,j,a,h,_=>by simp at h
 | b::l,i,h,j,a,hj,ho=>by
  rw [fNa.fIb] at h;split at h
  ·cases h
  ·rename_i hc;cases j with
   | zero =>
    simp at hj ho;subst hj;have:¬ b < n:=fun hlt=>hc ⟨hlt,ho⟩;omega
   | succ j=>exact waitsFrom_nil h j a (by simpa using hj) (by omega)
theorem done_heard {k:KK} {n:Int} (h:fNa.done k.fGa n = true) {c d:Nat} (hc:c < k.fGa.2.length) (ho:k.fGa.1[(n - 1).toNat]? = some (d:Int)) (hcd:c ≠ d):n <= gD k c:=by
 unfold fNa.done at h;simp only [Bool.and_eq_true,decide_eq_true_eq] at h;obtain ⟨⟨h1,h2⟩,h3⟩:=h;unfold fNa.waits at h3;rw [if_neg (by omega)] at h3;have hov:k.fGa.1.getD (n - 1).toNat 0 = d:=by rw [getD_eq_getElem?_getD,ho]; rfl
 rw [hov] at h3;have:=waitsFrom_nil h3 c _ (getElem?_eq_getElem hc) (by omega);unfold gD;rw [getD_eq_getElem?_getD,getElem?_eq_getElem hc];exact this
theorem eqb_pte {p q:Pte} (h:ak.eqb p q = true):p = q:=by
 cases p; cases q;simp [ak.eqb] at h;simp [h]
theorem no_takes_stay {k:KK} (I:dJ k) {x:KC} (cw:Cw x.fc) (h:KK.takes k.p x = false) (ht:Tk x.fc) (hk:Word.check x.fc k.p.s.fHa = 0) {a pg:Int} {l:io} (hc:Cov (PK.q k.p a pg) l):Stay k.p x.fFa x.fc a pg (PK.q k.p a pg).fDa l.fCa:=by
 have hne:(PK.q k.p a pg).fCa ≠ 0:=by have:=hc.r; omega
 obtain ⟨ho,hg,hq⟩:=PK.q_on hne;obtain ⟨b1,b2⟩:=q_slot I.F hne;unfold KK.takes at h;rw [if_neg (by rw [hk]; unfold Tk at ht; simp; omega)] at h;have h1:=PK.off_iff.1 ho;have hpg:aK pg = true:=by
  by_cases hh:aK pg = true/\(Table.at_ (PK.tab k.p a) pg).fCa ≠ 0
  ·exact hh.1
  ·rw [Table.get_no hh] at hg; cases hg
 obtain ⟨n,rfl,hn⟩:=kJ hpg;obtain ⟨m,rfl⟩:=Int.eq_ofNat_of_zero_le h1.1;have hhit:KK.hits k.p x m n = false:=by
  have h2:=List.any_eq_false.1 h m (List.mem_range.2 (by omega));simp only [Bool.not_eq_true] at h2;have h3:=List.any_eq_false.1 h2 n (List.mem_range.2 hn);simpa using h3
 unfold KK.hits at hhit;rw [PK.pte_snd,decide_eq_true hne,Bool.true_and] at hhit;have he:ak.eqb (KK.left k.p x m n (PK.q k.p m n)) (PK.q k.p m n) = true:=by simpa [PK.q] using hhit
 have heq:KK.left k.p x m n (PK.q k.p m n) = PK.q k.p m n:=by
  exact eqb_pte he
 have L:=(left_cov (l:=l) (pg:=(n:Int)) I.en ⟨ht,hk,cw⟩ b1 b2).1;exact (L.1 (heq.symm ▸ hc)).2
theorem dJ.work {k:KK} (I:dJ k) (hn:(k.fGa.1.length:Int) + 1 <= k.now) {c:Nat} {x:KC} (hx:KK.call k c = some x) (hi:KK.is k c = true):dJ (KK.work k c x):=by
 have hc:c < k.calls.length:=by obtain ⟨n,e,h⟩:=jD hi; omega
 have hcx:=qi hx;have cw:=I.cw c x hcx;unfold KK.work;split
 ·exact ends_inv (I.access hc x).1 _ _ _
 ·split
  ·rename_i h;exact I.tell hn hx hi h.2
  ·rename_i hnt;split
   ·exact I
   ·rename_i hnd;have E:dJ { k with p:=(PK.do_ k.p x.fFa x.fc).2 }:=by
     refine I.effect cw fun ht ho hk a ha l hl he=>?_;have L:=I.line a ha l hl he;cases hto:x.fQa with
     | false =>
      have htk:KK.takes k.p x = false:=by
       cases h:KK.takes k.p x with
       | false=>rfl
       | true=>exact absurd ⟨hto,h⟩ hnt
      exact no_takes_stay I cw htk ht hk L.cov
     | true =>
      have hd:fNa.done k.fGa x.fBb = true:=by
       cases h:fNa.done k.fGa x.fBb with
       | true=>rfl
       | false=>exact absurd ⟨hto,h⟩ hnd
      have htell:Tells k c x:=⟨hcx,hto⟩
      refine L.stay c x htell ?_;by_cases e:a = c
      ·exact .inl e
      ·have hel:k.fGa.2.length = k.calls.length:=by have:=I.ok.el; have:=I.ok.cl; omega
       exact .inr (done_heard hd (by omega) (I.told c x htell).2.2.2 e)
    split
    ·exact ends_inv E _ _ _
    ·exact E
theorem dJ.tick {k:KK} (I:dJ k) (hn:k.now < 2 ^ 40):dJ (KK.tick k):=I.same (kok_tick I.ok hn) rfl rfl rfl rfl rfl
theorem dJ.step {k:KK} (I:dJ k) (hn:k.now < 2 ^ 40) (c:Int):dJ (KK.step k c).2:=by
 unfold KK.step;split
 ·exact I
 ·rename_i hb;obtain ⟨hi,x,hx⟩:=busy_is (by simpa using hb);rw [hx];obtain ⟨n,rfl,_⟩:=jD hi;have h3:=I.ok.epn;exact (I.tick hn).work (by show _ <= i64.wrap (k.now + 1); rw [vJ I.ok.n0 hn]; simp only [KK.tick]; omega) hx hi
theorem dJ.begin {k:KK} (I:dJ k) (hn:k.now < 2 ^ 40) (core env:Int) {c:bv} (cw:Cw c):dJ (KK.begin_ k core env c).2:=by
 have okb:=kok_begin I.ok hn core env c;unfold KK.begin_ at okb ⊢;split
 ·exact I
 ·rename_i h;rw [if_neg h] at okb;exact I.put okb (c:=core.toNat) (o:=some ⟨k.events.length,env,c,false,0⟩) (fun x hx=>by cases hx; exact ⟨rfl,cw⟩) rfl rfl rfl rfl rfl
theorem dJ.evict {k:KK} (I:dJ k) (hn:k.now < 2 ^ 40) (c s w:Int):dJ (KK.evict k c s w).2:=by
 unfold KK.evict;split
 ·exact I
 ·rename_i h;obtain ⟨n,rfl,hlt⟩:=jD (by simpa using h);split
  ·exact I
  ·have It:=I.tick hn;rw [tO];have he:=Tlb.evict_in (I.tok n hlt) s w;exact It.buf (c:=n) hlt he.1 fun l hl h0=>It.line n hlt l (he.2 l hl h0) h0
theorem heard_set {k:KK} {e1 e2:List Int} {c:Nat} (hc:c < e2.length) (v:Int) (a:Nat) (h:k.fGa = (e1,e2.set c v)):gD k a = if a = c then v else e2.getD a 0:=by
 unfold gD;rw [h];simp only [getD_eq_getElem?_getD,getElem?_set];by_cases e:c = a
 ·subst e; simp [hc]
 ·rw [if_neg e,if_neg (fun h=>e h.symm)]
theorem dJ.post {k:KK} (I:dJ k) (hn:k.now < 2 ^ 40) (c:Int):dJ (KK.post k c).2:=by
 have okp:=kok_post I.ok hn c;unfold KK.post at okp ⊢;split
 ·exact I
 ·rename_i h;obtain ⟨c,rfl,hlt⟩:=jD (by simpa using h);split
  ·exact I
  ·rename_i ht;rw [if_neg h,if_neg ht] at okp;have hel:k.fGa.2.length = k.calls.length:=by have:=I.ok.el; have:=I.ok.cl; omega
   have hbl:k.fLa.length = k.calls.length:=by have:=I.ok.bl; have:=I.ok.cl; omega
   have hlen:k.fMa.length = k.calls.length:=by have:=I.ok.tl; have:=I.ok.cl; omega
   have htk:Mail.take k.fLa c = (((Mail.box k.fLa c).getD 0 0,true),k.fLa.set c ((Mail.box k.fLa c).drop 1))/\0 < (Mail.box k.fLa c).length:=by
    unfold Mail.take at ht ⊢;by_cases hw:Mail.waits k.fLa c = 0
    ·rw [if_pos hw] at ht; exact absurd rfl ht
    ·rw [if_neg hw];refine ⟨by simp,?_⟩;unfold Mail.waits at hw;split at hw
     ·omega
     ·exact absurd rfl hw
   obtain ⟨htk,hpos⟩:=htk;have hbx:=box_of I.ok.bx (c:Int);have hmem:(Mail.box k.fLa c).getD 0 0 ∈ Mail.box k.fLa c:=by
    rw [getD_eq_getElem?_getD,getElem?_eq_getElem hpos];exact getElem_mem hpos
   have hlo:=hbx.lo _ hmem;have hhi:=hbx.hi _ hmem;have hack:fNa.ack k.fGa c ((Mail.box k.fLa c).getD 0 0) = (true,(k.fGa.1,k.fGa.2.set c (mx (gD k c) ((Mail.box k.fLa c).getD 0 0)))):=by
    unfold fNa.ack;rw [if_pos ⟨by unfold fNa.is; exact decide_eq_true (by omega),by omega,by unfold fNa.now; omega⟩];simp [gD]
   rw [htk] at okp ⊢;have hcl:=clean_lines (k:=k) I.en I.F I.tell_all (b:=fA k c) (I.tok c hlt);have hsame:∀ (L:List io) (b:Buf),KK.cleans { KK.tick k with fLa:=k.fLa.set c ((Mail.box k.fLa c).drop 1) } L b = KK.cleans k L b:=by
    intro L
    induction L with
    | nil=>intro b; rfl
    | cons d L ih =>
     intro b;have hst:KK.stale { KK.tick k with fLa:=k.fLa.set c ((Mail.box k.fLa c).drop 1) } d = KK.stale k d:=rfl;rw [KK.cleans,KK.cleans,hst,ih,ih]
   have ek:({ KK.clean { KK.tick k with fLa:=k.fLa.set c ((Mail.box k.fLa c).drop 1) } c with fGa:=(fNa.ack k.fGa c ((Mail.box k.fLa c).getD 0 0)).2 }:KK) =
     { KK.tick k with fMa:=k.fMa.set c (KK.cleans k (Tlb.lines (fA k c)) (fA k c)),fLa:=k.fLa.set c ((Mail.box k.fLa c).drop 1),fGa:=(k.fGa.1,k.fGa.2.set c (mx (gD k c) ((Mail.box k.fLa c).getD 0 0))) }:=by
    rw [hack];unfold KK.clean;rw [hsame];have:KK.buf { KK.tick k with fLa:=k.fLa.set c ((Mail.box k.fLa c).drop 1) } c = fA k c:=tO k c;rw [this];simp only [toNat_natCast]
    rfl
   show dJ _;have okp':KK.Ok ({ KK.clean { KK.tick k with fLa:=k.fLa.set c ((Mail.box k.fLa c).drop 1) } c with fGa:=(fNa.ack k.fGa c ((Mail.box k.fLa c).getD 0 0)).2 }:KK):=okp;show dJ ({ KK.clean { KK.tick k with fLa:=k.fLa.set c ((Mail.box k.fLa c).drop 1) } c with fGa:=(fNa.ack k.fGa c ((Mail.box k.fLa c).getD 0 0)).2 }:KK);rw [ek] at okp' ⊢;have hh:∀ a,gD { KK.tick k with fMa:=k.fMa.set c (KK.cleans k (Tlb.lines (fA k c)) (fA k c)),fLa:=k.fLa.set c ((Mail.box k.fLa c).drop 1),fGa:=(k.fGa.1,k.fGa.2.set c (mx (gD k c) ((Mail.box k.fLa c).getD 0 0))) } a = if a = c then mx (gD k c) ((Mail.box k.fLa c).getD 0 0) else gD k a:=fun a=>heard_set (c:=c) (by omega) _ a rfl
   have hbuf:∀ a,fA { KK.tick k with fMa:=k.fMa.set c (KK.cleans k (Tlb.lines (fA k c)) (fA k c)),fLa:=k.fLa.set c ((Mail.box k.fLa c).drop 1),fGa:=(k.fGa.1,k.fGa.2.set c (mx (gD k c) ((Mail.box k.fLa c).getD 0 0))) } a = if a = c then KK.cleans k (Tlb.lines (fA k c)) (fA k c) else fA k a:=by
    intro a;simp only [fA,KK.tick,getD_eq_getElem?_getD,getElem?_set];by_cases e:c = a
    ·subst e; simp [hlen,hlt]
    ·rw [if_neg e,if_neg (fun h=>e h.symm)]
   have hmx:gD k c <= mx (gD k c) ((Mail.box k.fLa c).getD 0 0)/\(Mail.box k.fLa c).getD 0 0 <= mx (gD k c) ((Mail.box k.fLa c).getD 0 0)/\(mx (gD k c) ((Mail.box k.fLa c).getD 0 0) = gD k c\/mx (gD k c) ((Mail.box k.fLa c).getD 0 0) = (Mail.box k.fLa c).getD 0 0):=by unfold mx; split <;> omega
   refine ⟨okp',I.F,I.cw,I.told,fun a n ha hnn hne=>?_,fun a=>?_,fun a ha=>?_,fun a ha l hl he=>?_⟩
   ·rw [hh];have hbox:Mail.box (k.fLa.set c ((Mail.box k.fLa c).drop 1)) a = if a = c then (Mail.box k.fLa c).drop 1 else Mail.box k.fLa a:=by
     simp only [Mail.box,toNat_natCast,getD_eq_getElem?_getD,getElem?_set];by_cases e:c = a
     ·subst e; simp [hbl,hlt]
     ·rw [if_neg e,if_neg (fun h=>e h.symm)]
    show _\/_ ∈ Mail.box (k.fLa.set c ((Mail.box k.fLa c).drop 1)) a;rw [hbox];have old:=I.mail a n ha hnn hne;by_cases e:a = c
    ·subst e;rw [if_pos rfl,if_pos rfl];rcases old with h1 | h1
     ·exact .inl (by omega)
     ·cases hb:Mail.box k.fLa a with
      | nil=>rw [hb] at h1; cases h1
      | cons b bs =>
       rw [hb] at h1 hmx;simp only [List.getD_cons_zero] at hmx;rcases mem_cons.1 h1 with h2 | h2
       ·exact .inl (by simp only [List.getD_cons_zero]; omega)
       ·exact .inr (by simpa using h2)
    ·rw [if_neg e,if_neg e]; exact old
   ·rw [hh];have h1:=I.hi a;have h2:=I.hi c;split
    ·show _ <= (k.fGa.1.length:Int); omega
    ·exact h1
   ·rw [hbuf]; split
    ·exact hcl.1
    ·exact I.tok a ha
   ·rw [hbuf] at hl;by_cases e:a = c
    ·rw [if_pos e] at hl;obtain ⟨_,c1,c2⟩:=hcl.2 l hl he;exact ⟨c1,fun d y hy _=>c2 y (tells_mem hy) hy.2⟩
    ·rw [if_neg e] at hl;have L:=I.line a ha l hl he;refine ⟨L.cov,fun d y hy hhe=>L.stay d y hy ?_⟩;rcases hhe with h1 | h1
     ·exact .inl h1
     ·rw [hh,if_neg e] at h1; exact .inr h1
end
section
open Go Mb
namespace Mb
theorem least {p:Nat->Prop}:∀ (n:Nat),p n->∃ m,p m/\∀ k,p k->m <= k:=by
 intro n
 induction n using Nat.strongRecOn with
 | _ n ih =>
  intro hn;by_cases h:∃ k,k < n/\p k
  ·obtain ⟨k,hk,hpk⟩:=h;exact ih k hk hpk
  ·exact ⟨n,hn,fun k hk=>Nat.le_of_not_lt fun hlt=>h ⟨k,hlt,hk⟩⟩
theorem Lp.ghost {σ γ:Type} {step:(σ->Hp->Prop)->σ->Hp->Prop} (I:γ->σ->Hp->Prop) (μ:γ->Nat) {s:σ} {h:Hp} {g:γ} (h0:I g s h)
  (hs:∀ g s h,I g s h->∀ R:σ->Hp->Prop,(∀ g' s' h',I g' s' h'->μ g' < μ g->R s' h')->step R s h):Lp step s h:=by
 have mins:∀ s h,(∃ g,I g s h)->∃ m,(∃ g,I g s h/\μ g = m)/\∀ k,(∃ g,I g s h/\μ g = k)->m <= k:=by
  rintro s h ⟨g,hg⟩;exact least (p:=fun m=>∃ g,I g s h/\μ g = m) (μ g) ⟨g,hg,rfl⟩
 let M:σ->Hp->Nat:=fun s h=>@dite Nat (∃ g,I g s h) (Classical.propDecidable _) (fun H=>Classical.choose (mins s h H)) (fun _=>0)
 have hM:∀ s h,(∃ g,I g s h)->(∃ g,I g s h/\μ g = M s h)/\∀ g,I g s h->M s h <= μ g:=by
  intro s h H;have e:M s h = Classical.choose (mins s h H):=by
   show @dite Nat (∃ g,I g s h) (Classical.propDecidable _) _ _ = _;rw [dif_pos H]
  have sp:=Classical.choose_spec (mins s h H);rw [e];exact ⟨sp.1,fun g hg=>sp.2 _ ⟨g,hg,rfl⟩⟩
 refine Lp.intro (fun s h=>∃ g,I g s h) M ⟨g,h0⟩ fun s h H=>?_;obtain ⟨⟨g,hg,e⟩,_⟩:=hM s h H;refine hs g s h hg _ fun g' s' h' hg' hlt=>⟨⟨g',hg'⟩,?_⟩
 have:=(hM s' h' ⟨g',hg'⟩).2 g' hg';omega
end Mb
namespace fAa
structure Sub (t o:T):Prop where
 len:t.length = o.length
 get:∀ e s,has o e s = true->get t e s = jd\/get t e s = get o e s
def more1 (o t:T) (e s:Int):Bool × T :=
 if (at_ o e s).2 = false\/(at_ t e s).2 = true then (false,t)
 else if (at_ o e s).1.fBa < 0 then ((root t e s (at_ o e s).1.fEa).1 == 0,(root t e s (at_ o e s).1.fEa).2)
 else ((derive t (at_ o e s).1.fBa (at_ o e s).1.fDa e s (at_ o e s).1.fCa).1 == 0,(derive t (at_ o e s).1.fBa (at_ o e s).1.fDa e s (at_ o e s).1.fCa).2)
def moreS (o:T) (e:Nat):Nat->Bool × T->Bool × T
 | 0,st=>st
 | n + 1,st=>((moreS o e n st).1 || (more1 o (moreS o e n st).2 e n).1,(more1 o (moreS o e n st).2 e n).2)
def moreE (o:T):Nat->Bool × T->Bool × T
 | 0,st=>st
 | m + 1,st=>moreS o m 8 (moreE o m st)
def missing (o t:T) (p:Nat × Nat):Bool:=(at_ o p.1 p.2).2 && !(at_ t p.1 p.2).2
def pairs (n:Nat):List (Nat × Nat):=(range n).flatMap fun e=>(range 8).map fun s=>(e,s)
def miss (o t:T):Nat:=(pairs o.length).countP (missing o t)
theorem mem_pairs {n e s:Nat}:(e,s) ∈ pairs n↔e < n/\s < 8:=by
 unfold pairs; simp [List.mem_flatMap]
theorem countP_lt {α:Type} {P Q:α->Bool} {a:α}:∀ {l:List α},(∀ x ∈ l,Q x = true->P x = true)->a ∈ l->P a = true->Q a = false->l.countP Q < l.countP P
 | [],_,h,_,_=>by cases h
 | x::l,h1,h2,h3,h4=>by
  have le:∀ {l:List α},(∀ x ∈ l,Q x = true->P x = true)->l.countP Q <= l.countP P:=fun h=>List.countP_mono_left h;rcases mem_cons.1 h2 with rfl | h2
  ·rw [List.countP_cons_of_pos h3,List.countP_cons_of_neg (by rw [h4]; exact Bool.false_ne_true)];have:=le (l:=l) (fun x hx=>h1 x (by simp [hx]));omega
  ·have ih:=countP_lt (l:=l) (fun x hx=>h1 x (by simp [hx])) h2 h3 h4;by_cases hq:Q x = true
   ·rw [List.countP_cons_of_pos hq,List.countP_cons_of_pos (h1 x (by simp) hq)]; omega
   ·rw [List.countP_cons_of_neg hq];by_cases hpx:P x = true
    ·rw [List.countP_cons_of_pos hpx]; omega
    ·rw [List.countP_cons_of_neg hpx]; omega
theorem at_snd {t:T} {e s:Int}:(at_ t e s).2 = true↔has t e s = true/\(get t e s).fCa ≠ 0:=by
 unfold at_; split
 ·rename_i h; exact ⟨fun _=>h,fun _=>rfl⟩
 ·rename_i h; exact ⟨fun hh=>(by cases hh),fun hh=>absurd hh h⟩
theorem at_fst {t:T} {e s:Int} (h:(at_ t e s).2 = true):(at_ t e s).1 = get t e s:=by
 have:=at_snd.1 h;unfold at_; rw [if_pos this]
theorem sub_has {t o:T} (h:Sub t o) (e s:Int):has t e s = has o e s:=by unfold has; rw [h.len]
theorem cap_empty {n:Int} {o:T} {c:Cap} (h:CapFine n o c) (h0:c.fCa = 0):c = jd:=by
 rcases h with h | h | h
 ·exact h
 ·omega
 ·have:=(bI h.2.2.2.1).1; omega
theorem more1_is {n:Int} {o t:T} (hn:n <= 16) (ok:Ok o) (F:dw n o) (okt:Ok t) (sb:Sub t o) {e s:Int} (hh:has o e s = true) :
  (more1 o t e s = (false,t)/\((at_ o e s).2 = true->(at_ t e s).2 = true\/(0 <= (get o e s).fBa/\(get t (get o e s).fBa (get o e s).fDa).fCa = 0))) \/
  (more1 o t e s = (true,put t e s (get o e s))/\(get t e s).fCa = 0/\(get o e s).fCa ≠ 0/\(0 <= (get o e s).fBa->has t (get o e s).fBa (get o e s).fDa = true/\(get t (get o e s).fBa (get o e s).fDa).fCa ≠ 0)):=by
 by_cases h1:(at_ o e s).2 = true
 ·by_cases h2:(at_ t e s).2 = true
  ·left
   exact ⟨by unfold more1; rw [if_pos (.inr h2)],fun _=>.inl h2⟩
  ·have hno:¬ ((at_ o e s).2 = false\/(at_ t e s).2 = true):=by simp [h1,h2]
   have hc:=(at_snd.1 h1).2;have hf:=at_fst h1;have hht:has t e s = true:=by rw [sub_has sb]; exact hh
   have h0:(get t e s).fCa = 0:=by
    by_cases hz:(get t e s).fCa = 0
    ·exact hz
    ·exact absurd (at_snd.2 ⟨hht,hz⟩) h2
   rcases F e s hh with ec | ec | ec
   ·rw [ec] at hc; exact absurd rfl hc
   ·right
    have hneg:(get o e s).fBa < 0:=by omega
    have er:root t e s (get o e s).fEa = (0,put t e s (get o e s)):=by
     unfold root;rw [if_neg (by simp [hht]; omega),if_neg (by simp [h0])];have:(⟨(get o e s).fEa,3,-1,0⟩:Cap) = get o e s:=by
      obtain ⟨a1,a2,a3,_⟩:=ec;cases hg:get o e s;rw [hg] at a1 a2 a3
      simp_all
     rw [this]
    refine ⟨?_,h0,hc,fun hp=>absurd hp (by omega)⟩;unfold more1;rw [if_neg hno,hf,if_pos hneg,er]; rfl
   ·have hpos:¬ (get o e s).fBa < 0:=by omega
    obtain ⟨p1,p2⟩:=parent_has ok hh hc ec.1;have p1t:has t (get o e s).fBa (get o e s).fDa = true:=by rw [sub_has sb]; exact p1
    have hw:=bI ec.2.2.2.1;have hmay:aS (get o e s).fCa = true:=oM.2 hw.1;by_cases hp:(get t (get o e s).fBa (get o e s).fDa).fCa = 0
    ·left
     have ed:derive t (get o e s).fBa (get o e s).fDa e s (get o e s).fCa = (3,t):=by
      unfold derive;rw [if_neg (by simp [p1t,hht,hmay]),if_pos hp]
     refine ⟨?_,fun _=>.inr ⟨ec.1,hp⟩⟩;unfold more1;rw [if_neg hno,hf,if_neg hpos,ed]; rfl
    ·right
     have eg:get t (get o e s).fBa (get o e s).fDa = get o (get o e s).fBa (get o e s).fDa:=by
      rcases sb.get _ _ p1 with h | h
      ·rw [h] at hp; exact absurd rfl hp
      ·exact h
     have ed:derive t (get o e s).fBa (get o e s).fDa e s (get o e s).fCa = (0,put t e s (get o e s)):=by
      unfold derive;rw [if_neg (by simp [p1t,hht,hmay]),if_neg hp,if_neg (by simp [h0]),eg,if_neg (by simp [ec.2.2.2.1]),ec.2.2.2.2]
     refine ⟨?_,h0,hc,fun _=>⟨p1t,hp⟩⟩;unfold more1;rw [if_neg hno,hf,if_neg hpos,ed]; rfl
 ·left
  exact ⟨by unfold more1; rw [if_pos (.inl (by simpa using h1))],fun h=>absurd h h1⟩
structure Way (o t0 t:T) (b:Bool) (D:Nat->Nat->Prop):Prop where
 ok:Ok t
 sub:Sub t o
 same:b = false->t = t0
 no:b = false->∀ e s:Nat,D e s->(more1 o t0 e s).1 = false
 le:miss o t <= miss o t0
 lt:b = true->miss o t < miss o t0
theorem way_step {n:Int} {o t0 t:T} {b:Bool} {D:Nat->Nat->Prop} (hn:n <= 16) (ok:Ok o) (F:dw n o) (w:Way o t0 t b D) {e s:Nat} (he:e < o.length) (hs:s < 8) :
  Way o t0 (more1 o t e s).2 (b || (more1 o t e s).1) (fun a i=>D a i\/(a = e/\i = s)):=by
 have hh:has o e s = true:=has_of he hs;have hht:has t e s = true:=by rw [sub_has w.sub]; exact hh
 rcases more1_is hn ok F w.ok w.sub hh with ⟨e1,h1⟩ | ⟨e1,h0,hc,hp⟩
 ·rw [e1,Bool.or_false];refine ⟨w.ok,w.sub,w.same,fun hb a i hd=>?_,w.le,w.lt⟩;rcases hd with hd | ⟨rfl,rfl⟩
  ·exact w.no hb a i hd
  ·have:=w.same hb;rw [← this,e1]
 ·rw [e1,Bool.or_true];have gp:∀ a i,has o a i = true->get (put t e s (get o e s)) a i = if a = e/\i = s then get o e s else get t a i:=fun a i hai=>get_put w.ok.row hht (by rw [sub_has w.sub]; exact hai) _
  have hlt:miss o (put t e s (get o e s)) < miss o t:=by
   unfold miss;refine countP_lt (a:=(e,s)) (fun q hq hm=>?_) (mem_pairs.2 ⟨he,hs⟩) ?_ ?_
   ·unfold missing at hm ⊢;rw [Bool.and_eq_true] at hm ⊢;refine ⟨hm.1,?_⟩;have hq':=(at_snd.1 hm.1).1;have hm2:¬ (at_ (put t e s (get o e s)) q.1 q.2).2 = true:=by simpa using hm.2
    have:¬ (at_ t q.1 q.2).2 = true:=by
     intro hat;apply hm2;have h3:=at_snd.1 hat;refine at_snd.2 ⟨by rw [put_has]; exact h3.1,?_⟩;rw [gp _ _ hq'];split
     ·exact hc
     ·exact h3.2
    simpa using this
   ·unfold missing;have a1:(at_ o e s).2 = true:=at_snd.2 ⟨hh,hc⟩;have a2:(at_ t e s).2 = false:=by
     cases hat:(at_ t e s).2 with
     | false=>rfl
     | true=>exact absurd h0 (at_snd.1 hat).2
    simp only [a1,a2]; rfl
   ·unfold missing;have a2:(at_ (put t e s (get o e s)) e s).2 = true:=at_snd.2 ⟨by rw [put_has]; exact hht,by rw [gp _ _ hh,if_pos ⟨rfl,rfl⟩]; exact hc⟩;simp only [a2]; simp
  refine ⟨ok_put w.ok hht h0 _ hp,⟨by rw [put_len]; exact w.sub.len,fun a i hai=>?_⟩,fun h=>(by cases h),fun h=>(by cases h),Nat.le_of_lt (Nat.lt_of_lt_of_le hlt w.le),fun _=>Nat.lt_of_lt_of_le hlt w.le⟩;rw [gp a i hai];split
  ·rename_i hai2; obtain ⟨rfl,rfl⟩:=hai2; exact .inr rfl
  ·exact w.sub.get a i hai
theorem way_mono {o t0 t:T} {b:Bool} {D D':Nat->Nat->Prop} (w:Way o t0 t b D) (h:∀ e s,D' e s->D e s):Way o t0 t b D':=⟨w.ok,w.sub,w.same,fun hb e s hd=>w.no hb e s (h e s hd),w.le,w.lt⟩
theorem way_row {n:Int} {o t0 t:T} {b:Bool} {e:Nat} (hn:n <= 16) (ok:Ok o) (F:dw n o) (he:e < o.length) (w:Way o t0 t b (fun a i=>a < e/\i < 8)):∀ j,j <= 8->Way o t0 (moreS o e j (b,t)).2 (moreS o e j (b,t)).1 (fun a i=>a < e/\i < 8\/a = e/\i < j)
 | 0,_=>way_mono w fun a i h=>by rcases h with h | h; exact h; omega
 | j + 1,hj=>by
  have:=way_step hn ok F (way_row hn ok F he w j (by omega)) he (s:=j) (by omega);exact way_mono this fun a i h=>by
   rcases h with h | h
   ·exact .inl (.inl h)
   ·by_cases e1:i = j
    ·exact .inr ⟨h.1,e1⟩
    ·exact .inl (.inr ⟨h.1,by omega⟩)
theorem way_all {n:Int} {o t:T} (hn:n <= 16) (ok:Ok o) (F:dw n o) (okt:Ok t) (sb:Sub t o):∀ m,m <= o.length->Way o t (moreE o m (false,t)).2 (moreE o m (false,t)).1 (fun a i=>a < m/\i < 8)
 | 0,_=>⟨okt,sb,fun _=>rfl,fun _ e s h=>(by omega),le_refl _,fun h=>(by cases h)⟩
 | m + 1,hm=>by
  have:=way_row hn ok F (e:=m) (by omega) (way_all hn ok F okt sb m (by omega)) 8 (le_refl _);exact way_mono this fun a i h=>by
   by_cases e1:a = m
   ·exact .inr ⟨e1,h.2⟩
   ·exact .inl ⟨by omega,h.2⟩
theorem all_there {n:Int} {o t:T} (hn:n <= 16) (ok:Ok o) (F:dw n o) (okt:Ok t) (sb:Sub t o) (hno:∀ e s:Nat,e < o.length->s < 8->(more1 o t e s).1 = false):t = o:=by
 obtain ⟨rank,hr⟩:=ok.rk;have key:∀ (r:Nat) (e s:Nat),e < o.length->s < 8->rank e s <= r->get t e s = get o e s:=by
  intro r
  induction r using Nat.strongRecOn with
  | _ r ih =>
   intro e s he hs hrk;have hh:has o e s = true:=has_of he hs;by_cases hz:(get o e s).fCa = 0
   ·have e0:=cap_empty (F e s hh) hz;rcases sb.get e s hh with h | h
    ·rw [h,e0]
    ·exact h
   ·rcases more1_is hn ok F okt sb hh with ⟨e1,h1⟩ | ⟨e1,_⟩
    ·rcases h1 (at_snd.2 ⟨hh,hz⟩) with h2 | ⟨h2,h3⟩
     ·rcases sb.get e s hh with h | h
      ·have:=(at_snd.1 h2).2; rw [h] at this; exact absurd rfl this
      ·exact h
     ·exfalso
      obtain ⟨q1,q2,q3⟩:=hr e s hh hz h2;obtain ⟨a,i,ea,ei,ha,hi⟩:=has_nat q1;rw [ea,ei] at q2 q3 h3;have:=ih (rank a i) (by omega) a i ha hi (le_refl _);rw [this] at h3; exact q2 h3
    ·have:=hno e s he hs;rw [e1] at this; cases this
 apply List.ext_getElem?;intro m;by_cases hm:m < o.length
 ·have hmt:m < t.length:=by rw [sb.len]; exact hm
  rw [getElem?_eq_getElem hm,getElem?_eq_getElem hmt]
  congr 1
  have l1:=ok.row _ (getElem_mem hm);have l2:=okt.row _ (getElem_mem hmt);apply List.ext_getElem (by rw [l1,l2]);intro s h1 h2;have hs:s < 8:=by omega
  obtain ⟨_,g1⟩:=get_nat' ok.row hm hs;obtain ⟨_,g2⟩:=get_nat' okt.row hmt hs;rw [← g1,← g2];exact key _ m s hm hs (le_refl _)
 ·have hmt:¬ m < t.length:=by rw [sb.len]; exact hm
  rw [List.getElem?_eq_none (Nat.le_of_not_lt hm),List.getElem?_eq_none (Nat.le_of_not_lt hmt)]
end fAa
end
section
open Go Mb
abbrev vT (s:Sl) (t:fAa.T):As:=vec kM 32 enc8 s t
abbrev vP (s:Sl) (l:List ba):As:=vec so 2 au.C s l
def bD (x:Ptr) (t:fAa.T):As:=fun h=>∃ z:Nat × Sl,(x = some (z.1,0)/\fAa.Ok t)/\ah [blk z.1 nt [sv z.2],vT z.2 t] h
theorem iz {x:Ptr} {t:fAa.T} {l:List As} {h:Hp} (s0:ah (bD x t::l) h):∃ b s,x = some (b,0)/\fAa.Ok t/\s.len = t.length/\ah (blk b nt [sv s]::vT s t::l) h:=by
 obtain ⟨⟨b,s⟩,⟨hx,h1⟩,st⟩:=op_ s0;exact ⟨b,s,hx,h1,(aX (j:=1) st rfl).1,st⟩
theorem tree_cl {b:Nat} {s:Sl} {t:fAa.T} {l:List As} {h:Hp} (h1:fAa.Ok t) (st:ah (blk b nt [sv s]::vT s t::l) h):ah (bD (some (b,0)) t::l) h :=
 cl_ (m:=fun z:Nat × Sl=>[blk z.1 nt [sv z.2],vT z.2 t]) (b,s) ⟨rfl,h1⟩ st
theorem enc8_get {r:List Cap} (h:r.length = 8) {n:Nat} {c:Cap} (hn:r[n]? = some c) (j:Nat) (v:Value) (hv:c.C[j]? = some v):(enc8 r)[n * 4 + j]? = some v:=by
 rw [enc8_eq h]; exact mK qz r n j c v hn hv
theorem enc8_set {r:List Cap} (h:r.length = 8) {n:Nat} {c:Cap} (hn:r[n]? = some c) (d:Cap):enc8 (r.set n d) = wr (enc8 r) (n * 4) d.C:=by
 rw [enc8_eq h,enc8_eq (by simpa using h)];exact (flat_wr qz r n 0 c d d.C hn (by simp [qz]) (wr_all rfl).symm).symm
theorem yd {σ:Type} {l:List As} {h:Hp} {j k off:Nat} {s:Sl} {t:fAa.T} {q:Nat × Nat} {enc':σ->List Value} {K:σ->Hp->Prop} {e i:Int} (y:σ) (ok:fAa.Ok t) (he:fAa.has t e i = true) (st:ah l h) (hj:l[j]? = some (vT s t)) (hq:s.a = some q) (hoff:off = q.2 + Int.toNat e * 32 + Int.toNat i * 4 + k)
  (hy:∀ n v,(enc' y)[n]? = some v->(fAa.get t e i).C[k + n]? = some v) (kk:K y h):ld (q.1,off) enc' K h:=by
 obtain ⟨m,n,rfl,rfl,hm,hn⟩:=fAa.has_nat he;obtain ⟨hn',hg⟩:=fAa.get_nat' ok.row hm hn;rw [hg] at hy;refine bK (j:=j) (i:=m) (k:=n * 4 + k) (x:=t[m]) y enc8_len st hj hq (by simp at hoff; omega) (al hm) (fun a v hv=>?_) kk;rw [Nat.add_assoc];exact enc8_get (ok.row _ (getElem_mem hm)) (al hn') _ _ (hy a v hv)
theorem st_tree {l:List As} {h:Hp} {j off:Nat} {s:Sl} {t:fAa.T} {q:Nat × Nat} {K:Hp->Prop} {e i:Int} (c:Cap) (row:∀ r ∈ t,r.length = 8) (he:fAa.has t e i = true) (st:ah l h) (hj:l[j]? = some (vT s t)) (hq:s.a = some q) (hoff:off = q.2 + Int.toNat e * 32 + Int.toNat i * 4)
  (kk:∀ h',ah (l.set j (vT s (fAa.put t e i c))) h'->K h'):Mb.st (q.1,off) c.C K h:=by
 obtain ⟨m,n,rfl,rfl,hm,hn⟩:=fAa.has_nat he;obtain ⟨hn',hg⟩:=fAa.get_nat' row hm hn;refine tZ (j:=j) (i:=m) (k:=n * 4) (x:=t[m]) (t[m].set n c) enc8_len st hj hq (by simp at hoff; omega) (al hm) (by simp [qz]; omega) (enc8_set (row _ (getElem_mem hm)) (al hn') c) fun h' s'=>?_;refine kk h' ?_;rw [fAa.put_nat hm]; exact s'
theorem rep8:enc8 (replicate 8 jd) = [.int .i64 0,.int .i64 0,.int .i64 0,.int .i64 0,.int .i64 0,.int .i64 0,.int .i64 0,.int .i64 0,.int .i64 0,.int .i64 0,.int .i64 0,.int .i64 0,.int .i64 0,.int .i64 0,.int .i64 0,.int .i64 0,.int .i64 0,.int .i64 0,.int .i64 0,.int .i64 0,.int .i64 0,.int .i64 0,.int .i64 0,.int .i64 0,.int .i64 0,.int .i64 0,.int .i64 0,.int .i64 0,.int .i64 0,.int .i64 0,.int .i64 0,.int .i64 0]:=rfl
theorem sp_caps_New (n:Int) (h1:¬ n < 1) (h2:¬ n > 4):Sp prog ya [.int .i64 n] sP [] (fun r=>ah [bD r (replicate n.toNat (replicate 8 jd))]):=by
 intro h st;refine sim_caps_New _ ?_;unfold sh_caps_New;obtain ⟨m,rfl⟩:=Int.eq_ofNat_of_zero_le (show 0 <= n by omega);refine bB (by simp; omega) ?_;refine nI (τ:=List Cap) (x0:=replicate 8 jd) (enc:=enc8) (n:=m) (T:=kM) (m:=32) el_S_8_api_Cap rep8 st ?_ ?_ ?_
 ·omega
 ·omega
 ·intro v h' s1;refine nP s1 fun b h'' s2=>?_;exact tree_cl (fAa.ok_new _ (by omega)) s2
theorem tf (x:Ptr) (t:fAa.T) (e s:Int):Sp prog gy [pv x,.int .i64 e,.int .i64 s] ai [bD x t] (fun r=>pa_ (r = fAa.has t e s) [bD x t]):=by
 intro h s0;obtain ⟨b,sl,rfl,ok,hl,st⟩:=iz s0;refine sim_caps_Tree_is _ _ _ ?_;unfold sh_caps_Tree_is;refine ar (fun k=>?_) (fun k=>?_)
 ·have k':0 <= e:=by simpa using k
  refine bn (aJ sl st (i:=0) rfl rfl rfl ?_);exact aw (by rw [hl]; simp [fAa.has,k',Bool.and_assoc]) s0
 ·have k':¬ 0 <= e:=by simpa using k
  exact aw (by simp [fAa.has]; intro h; exact absurd h k') s0
theorem jn (x:Ptr) (t:fAa.T) (e s:Int):Sp prog dm [pv x,.int .i64 e,.int .i64 s] bL [bD x t] (fun r=>pa_ (r = fAa.at_ t e s) [bD x t]):=by
 intro h s0;obtain ⟨b,sl,rfl,ok,hl,st⟩:=iz s0;refine sim_caps_Tree_At _ _ _ ?_;unfold sh_caps_Tree_At;refine cg rfl ?_;refine bG [0] (tf _ t e s) s0 rfl fun r h1 s1=>?_;obtain ⟨rfl,s2⟩:=aM.1 s1;refine ar (fun k=>?_) (fun k=>?_)
 ·have k':fAa.has t e s = true:=by simpa using k
  obtain ⟨m,n,rfl,rfl,hm,hn⟩:=fAa.has_nat k';obtain ⟨b',sl,hb',ok,hl,st⟩:=iz s2;cases hb';refine bn (aJ sl st (i:=0) rfl rfl rfl ?_);refine bE st (j:=1) rfl (by omega) (by omega) fun q hq=>⟨⟨by omega,by omega⟩,?_⟩
  refine yd (j:=1) (k:=1) (fAa.get t m n).fCa ok k' st rfl hq rfl (c1 rfl rfl) ?_;unfold gU;refine ar (fun k2=>?_) (fun k2=>?_)
  ·have k2':(fAa.get t m n).fCa = 0:=by simpa using k2
   exact aw (by unfold fAa.at_; rw [if_neg (fun hh=>hh.2 k2')]) s2
  ·have k2':¬ (fAa.get t m n).fCa = 0:=by simpa using k2
   refine bn (aJ sl st (i:=0) rfl rfl rfl ?_);refine bE st (j:=1) rfl (by omega) (by omega) fun q2 hq2=>⟨⟨by omega,by omega⟩,?_⟩
   refine yd (j:=1) (k:=0) (fAa.get t m n) ok k' st rfl hq2 rfl (by simp) ?_;exact aw (by unfold fAa.at_; rw [if_pos ⟨k',k2'⟩]) s2
 ·have k':fAa.has t e s = false:=by simpa using k
  unfold gU;exact cg rfl (aw (by unfold fAa.at_; rw [if_neg (by simp [k'])]) s2)
theorem xl (x:Ptr) (t:fAa.T) (e s f:Int):Sp prog iL [pv x,.int .i64 e,.int .i64 s,.int .i64 f] aC [bD x t] (fun r=>pa_ (r = (fAa.root t e s f).1) [bD x (fAa.root t e s f).2]):=by
 intro h s0;obtain ⟨b,sl,rfl,ok,hl,st⟩:=iz s0;refine sim_caps_Tree_Root _ _ _ _ ?_;unfold uF;refine bB rfl ?_;refine bG [0] (tf _ t e s) s0 rfl fun r h1 s1=>?_;obtain ⟨rfl,s2⟩:=aM.1 s1;have hok:=fAa.ok_root ok e s f;refine ar (fun k=>?_) (fun k=>?_)
 ·have k':fAa.has t e s = false\/f < 0\/f >= 16:=by simpa [or_assoc] using k
  have e1:fAa.root t e s f = (2,t):=if_pos k';rw [e1]; exact aw rfl s2
 ·have k':¬ (fAa.has t e s = false\/f < 0\/f >= 16):=by simp at k; simp [k]
  have hh:fAa.has t e s = true:=by simp at k'; exact k'.1
  obtain ⟨m,n,rfl,rfl,hm,hn⟩:=fAa.has_nat hh;obtain ⟨b',sl,hb',ok,hl,st⟩:=iz s2;cases hb';refine bn (aJ sl st (i:=0) rfl rfl rfl ?_);refine bE st (j:=1) rfl (by omega) (by omega) fun q hq=>⟨⟨by omega,by omega⟩,?_⟩
  refine yd (j:=1) (k:=1) (fAa.get t m n).fCa ok hh st rfl hq rfl (c1 rfl rfl) ?_;refine ar (fun k2=>?_) (fun k2=>?_)
  ·have k2':(fAa.get t m n).fCa ≠ 0:=by simpa using k2
   have e1:fAa.root t m n f = (4,t):=by unfold fAa.root; rw [if_neg k',if_pos k2']
   rw [e1]; exact aw rfl s2
  ·have k2':¬ (fAa.get t m n).fCa ≠ 0:=by simpa using k2
   have e1:fAa.root t m n f = (0,fAa.put t m n ⟨f,3,-1,0⟩):=by unfold fAa.root; rw [if_neg k',if_neg k2']
   rw [e1] at hok ⊢;refine aJ sl st (i:=0) rfl rfl rfl ?_;refine bE st (j:=1) rfl (by omega) (by omega) fun q2 hq2=>?_;refine st_tree (j:=1) ⟨f,3,-1,0⟩ ok.row hh st rfl hq2 rfl fun h3 s3=>?_;exact aw rfl (tree_cl hok s3)
theorem tg (x:Ptr) (t:fAa.T) (e src to dst r:Int):Sp prog gA [pv x,.int .i64 e,.int .i64 src,.int .i64 to,.int .i64 dst,.int .i64 r] aC [bD x t] (fun v=>pa_ (v = (fAa.derive t e src to dst r).1) [bD x (fAa.derive t e src to dst r).2]):=by
 intro h s0;obtain ⟨b,sl,rfl,ok,hl,st⟩:=iz s0;refine sim_caps_Tree_Derive _ _ _ _ _ _ ?_;unfold sg;refine bB rfl ?_;refine bG [0] (tf _ t e src) s0 rfl fun r1 h1 s1=>?_;obtain ⟨rfl,s2⟩:=aM.1 s1;have hok:=fAa.ok_derive ok e src to dst r;have no:(fAa.has t e src = false\/fAa.has t to dst = false\/aS r = false)->fAa.derive t e src to dst r = (2,t):=fun hh=>if_pos hh;refine ar (fun k=>?_) (fun k=>?_)
 ·have k':fAa.has t e src = true:=by simpa using k
  refine bG [0] (tf _ t to dst) s2 rfl fun r3 h3 s3=>?_;obtain ⟨rfl,s4⟩:=aM.1 s3;refine ar (fun k2=>?_) (fun k2=>?_)
  ·rw [no (.inr (by simpa using k2))]; exact aw rfl s4
  ·have k2':fAa.has t to dst = true/\aS r = true:=by simpa using k2
   have hno:¬ (fAa.has t e src = false\/fAa.has t to dst = false\/aS r = false):=by simp [k',k2'.1,k2'.2]
   obtain ⟨m,n,rfl,rfl,hm,hn⟩:=fAa.has_nat k';obtain ⟨i,j,rfl,rfl,hi,hj⟩:=fAa.has_nat k2'.1;obtain ⟨b',sl,hb',ok,hl,st⟩:=iz s4;cases hb';refine bn (aJ sl st (i:=0) rfl rfl rfl ?_);refine bE st (j:=1) rfl (by omega) (by omega) fun q hq=>⟨⟨by omega,by omega⟩,?_⟩
   refine yd (j:=1) (k:=0) (fAa.get t m n) ok k' st rfl hq rfl (by simp) ?_;refine ar (fun k3=>?_) (fun k3=>?_)
   ·have k3':(fAa.get t m n).fCa = 0:=by simpa using k3
    have e1:fAa.derive t m n i j r = (3,t):=by unfold fAa.derive; rw [if_neg hno,if_pos k3']
    rw [e1]; exact aw rfl s4
   ·have k3':¬ (fAa.get t m n).fCa = 0:=by simpa using k3
    refine aJ sl st (i:=0) rfl rfl rfl ?_;refine bE st (j:=1) rfl (by omega) (by omega) fun q2 hq2=>⟨⟨by omega,by omega⟩,?_⟩
    refine yd (j:=1) (k:=1) (fAa.get t i j).fCa ok k2'.1 st rfl hq2 rfl (c1 rfl rfl) ?_;refine ar (fun k4=>?_) (fun k4=>?_)
    ·have k4':(fAa.get t i j).fCa ≠ 0:=by simpa using k4
     have e1:fAa.derive t m n i j r = (4,t):=by unfold fAa.derive; rw [if_neg hno,if_neg k3',if_pos k4']
     rw [e1]; exact aw rfl s4
    ·have k4':¬ (fAa.get t i j).fCa ≠ 0:=by simpa using k4
     refine ar (fun k5=>?_) (fun k5=>?_)
     ·have k5':ap r (fAa.get t m n).fCa = false:=by simpa using k5
      have e1:fAa.derive t m n i j r = (5,t):=by unfold fAa.derive; rw [if_neg hno,if_neg k3',if_neg k4',if_pos k5']
      rw [e1]; exact aw rfl s4
     ·have k5':¬ ap r (fAa.get t m n).fCa = false:=by simpa using k5
      have e1:fAa.derive t m n i j r = (0,fAa.put t i j ⟨(fAa.get t m n).fEa,r,m,n⟩):=by unfold fAa.derive; rw [if_neg hno,if_neg k3',if_neg k4',if_neg k5']
      rw [e1] at hok ⊢;refine aJ sl st (i:=0) rfl rfl rfl ?_;refine bE st (j:=1) rfl (by omega) (by omega) fun q3 hq3=>?_;refine st_tree (j:=1) ⟨(fAa.get t m n).fEa,r,m,n⟩ ok.row k2'.1 st rfl hq3 rfl fun h6 s6=>?_;exact aw rfl (tree_cl hok s6)
 ·have k':fAa.has t e src = false:=by simpa using k
  rw [no (.inl k')]; exact aw rfl s2
theorem sp_caps_under (x:Ptr) (t:fAa.T) (e s:Int) (p:ba) (he:fAa.has t e s = true):Sp prog kE [pv x,.agg (fAa.get t e s).C.toArray,.agg p.C.toArray] ai [bD x t] (fun r=>pa_ (r = fAa.under t (fAa.get t e s) p) [bD x t]):=by
 intro h s0;obtain ⟨b,sl,rfl,ok,hl,st⟩:=iz s0;refine sim_caps_Tree_under _ _ _ ?_;unfold tx;refine Lp.intro (fun (c:Cap) h=>∃ a i,c = fAa.get t a i/\fAa.has t a i = true/\fAa.under t c p = fAa.under t (fAa.get t e s) p/\ah [bD (some (b,0)) t] h) (fun (c:Cap) _=>fAa.deep 40 t c) ⟨e,s,rfl,he,rfl,s0⟩ ?_;rintro c h ⟨a,i,rfl,ha,hu,s1⟩;unfold tW;have step:=fAa.under_step ok ha p;refine ar (fun k=>?_) (fun k=>?_)
 ·have k':(fAa.get t a i).fCa ≠ 0/\0 <= (fAa.get t a i).fBa:=by simpa using k
  rw [if_pos k'] at step;refine ar (fun k2=>?_) (fun k2=>?_)
  ·have k2':(fAa.get t a i).fBa = p.fBa/\(fAa.get t a i).fDa = p.fDa:=by simpa using k2
   rw [if_pos k2'] at step;exact aw (by rw [← hu,step]) s1
  ·have k2':¬ ((fAa.get t a i).fBa = p.fBa/\(fAa.get t a i).fDa = p.fDa):=by simpa using k2
   rw [if_neg k2'] at step;have dd:=fAa.deep_step ok ha k';obtain ⟨rank,hr⟩:=ok.rk;obtain ⟨hp,_,_⟩:=hr a i ha k'.1 k'.2;have hp':=hp;obtain ⟨m,n,em,en,hm,hn⟩:=fAa.has_nat hp';obtain ⟨b',sl,hb',ok,hl,st⟩:=iz s1;cases hb';refine bn (aJ sl st (i:=0) rfl rfl rfl ?_);refine bE st (j:=1) rfl (by omega) (by omega) fun q hq=>⟨⟨by omega,by omega⟩,?_⟩
   refine yd (j:=1) (k:=0) (fAa.get t (fAa.get t a i).fBa (fAa.get t a i).fDa) ok hp st rfl hq rfl (by simp) ?_;exact ⟨⟨_,_,rfl,hp,by rw [← step]; exact hu,s1⟩,dd⟩
 ·have k':¬ ((fAa.get t a i).fCa ≠ 0/\0 <= (fAa.get t a i).fBa):=by simpa using k
  rw [if_neg k'] at step;exact aw (by rw [← hu,step]) s1
theorem row_app (P:Int->Int->Cap->Bool) (e:Int):∀ (cs:List Cap) (s:Int) (c:Cap),fAa.rowOf P e (cs++[c]) s = fAa.rowOf P e cs s++(if c.fCa ≠ 0/\P e (s + cs.length) c = true then [⟨e,s + cs.length⟩] else [])
 | [],s,c=>by simp [fAa.rowOf]
 | d::cs,s,c=>by
  rw [cons_append,fAa.rowOf_c,fAa.rowOf_c,row_app P e cs (s + 1) c];have e1:s + 1 + (cs.length:Int) = s + ((d::cs).length:Int):=by simp; omega
  rw [e1];split <;> simp
theorem all_app (P:Int->Int->Cap->Bool):∀ (t:fAa.T) (e:Int) (r:List Cap),fAa.allOf P (t++[r]) e = fAa.allOf P t e++fAa.rowOf P (e + t.length) r 0
 | [],e,r=>by simp [fAa.allOf]
 | d::t,e,r=>by
  have e1:e + 1 + (t.length:Int) = e + ((d::t).length:Int):=by simp; omega
  rw [cons_append,fAa.allOf,fAa.allOf,all_app P t (e + 1) r,List.append_assoc,e1]
theorem row_len (P:Int->Int->Cap->Bool) (e:Int):∀ (cs:List Cap) (s:Int),(fAa.rowOf P e cs s).length <= cs.length
 | [],_=>le_refl _
 | c::cs,s=>by rw [fAa.rowOf_c]; have:=row_len P e cs (s + 1); split <;> simp <;> omega
theorem all_len (P:Int->Int->Cap->Bool):∀ (t:fAa.T) (e:Int),(∀ r ∈ t,r.length = 8)->(fAa.allOf P t e).length <= 8 * t.length
 | [],_,_=>le_refl _
 | r::t,e,h=>by
  have h1:=row_len P e r 0;have h2:=h r (by simp);have h3:=all_len P t (e + 1) (fun r hr=>h r (by simp [hr]));rw [fAa.allOf,List.length_append,List.length_cons];omega
theorem sp_caps_all (x:Ptr) (t:fAa.T) (v:Value) (P:Int->Int->Cap->Bool) (A:List As)
  (hv:∀ e s,fAa.has t e s = true->(fAa.get t e s).fCa ≠ 0->SpV prog v [.agg (⟨e,s⟩:ba).C.toArray,.agg (fAa.get t e s).C.toArray] ai (bD x t::A) (fun r=>pa_ (r = P e s (fAa.get t e s)) (bD x t::A))) :
  Sp prog jN [pv x,v] bS (bD x t::A) (fun r=>ah (vP r (fAa.allOf P t 0)::bD x t::A)):=by
 intro h s0;obtain ⟨b,sl,rfl,ok,hl,st⟩:=iz s0;have h4:=ok.len;refine sim_caps_Tree_all _ _ ?_;unfold wD;refine bB rfl (bn (aJ sl st (i:=0) rfl rfl rfl ?_));refine Lp.intro (fun (z:Sl × Int) h=>∃ n:Nat,z.2 = n/\n <= t.length/\ah (vP z.1 (fAa.allOf P (t.take n) 0)::bD (some (b,0)) t::A) h) (fun (z:Sl × Int) _=>t.length - z.2.toNat) ⟨0,rfl,zero_le _,dp s0⟩ ?_;rintro ⟨z,i⟩ h ⟨n,rfl,hn,s1⟩;unfold wW;refine ar (fun k=>?_) (fun k=>?_)
 ·have hlt:n < t.length:=by rw [hl] at k; simpa using k
  have hrow:=ok.row _ (getElem_mem hlt);have hw:i64.wrap ((n:Int) + 1) = ((n + 1:Nat):Int):=by rw [aE (by omega) (by omega)]; rfl
  obtain ⟨b',sl',hb',_,hl',st1⟩:=iz (aA [1] s1 rfl);cases hb';refine aJ sl' st1 (i:=0) rfl rfl rfl ?_;refine bE st1 (j:=1) rfl (by omega) (by show (n:Int) < _; omega) fun q hq=>?_;have hfl:(t[n].flatMap aH.C).length = 32:=by rw [bR qz,hrow]
  have hld:ld (q.1,q.2 + Int.toNat (n:Int) * 32 + 0) (fun _:Unit=>t[n].flatMap aH.C) (fun _ _=>True) h :=
   bK (j:=1) (i:=n) (k:=0) (x:=t[n]) (enc':=fun _:Unit=>t[n].flatMap aH.C) () enc8_len st1 rfl hq rfl (al hlt) (fun m v hv=>by rw [Nat.zero_add,enc8_eq hrow]; exact hv) trivial
  obtain ⟨_,rI,_⟩:=hld;refine loadAt_v (r:=t[n].flatMap aH.C) (cs:=t[n].flatMap aH.C) agn_8_api_Cap (by simpa using rI) hfl rfl ?_;refine Lp.intro (fun (y:Sl × Int) h=>∃ m:Nat,y.2 = m/\m <= 8/\ah (vP y.1 (fAa.allOf P (t.take n) 0++fAa.rowOf P n (t[n].take m) 0)::bD (some (b,0)) t::A) h) (fun (y:Sl × Int) _=>8 - y.2.toNat) ⟨0,rfl,zero_le _,by simpa [fAa.rowOf] using s1⟩ ?_;rintro ⟨y,j⟩ h ⟨m,rfl,hm,s2⟩;have hal:=all_len P (t.take n) 0 (fun r hr=>ok.row r (List.mem_of_mem_take hr));have hrl:=row_len P n (t[n].take m) 0;simp at hal hrl;unfold wV;refine ar (fun k2=>?_) (fun k2=>?_)
  ·have hlt2:m < 8:=by have:=of_decide_eq_true k2; omega
   have hm':m < t[n].length:=by omega
   have hw2:i64.wrap ((m:Int) + 1) = ((m + 1:Nat):Int):=by rw [aE (by omega) (by omega)]; rfl
   have ht:t[n].take (m + 1) = t[n].take m++[t[n][m]]:=by simp
   have hlen:((t[n].take m).length:Int) = m:=by simp; omega
   have hg:fAa.get t n m = t[n][m]:=(fAa.get_nat' ok.row hlt hlt2).2;have hrap:=row_app P n (t[n].take m) 0 t[n][m];rw [hlen,Int.zero_add] at hrap;refine index_v (enc:=aH.C) (m:=4) arn_8_api_Cap age_8_api_Cap qz (fun _=>rfl) hrow (al hm') ?_;have next:¬ (t[n][m].fCa ≠ 0/\P n m t[n][m] = true)->∀ h,ah (vP y (fAa.allOf P (t.take n) 0++fAa.rowOf P n (t[n].take m) 0)::bD (some (b,0)) t::A) h->gm (z,(n:Int)) (fun s' h'=>(∃ m:Nat,s'.2 = m/\m <= 8/\ah (vP s'.1 (fAa.allOf P (t.take n) 0++fAa.rowOf P n (t[n].take m) 0)::bD (some (b,0)) t::A) h')/\8 - s'.2.toNat < 8 - (m:Int).toNat) (y,(m:Int)) false h:=by
    intro hno h s3;unfold gm;refine bB rfl ?_;rw [hw2];refine ⟨⟨m + 1,rfl,hlt2,?_⟩,by simp; omega⟩;rw [ht,hrap,if_neg hno,List.append_nil];exact s3
   refine ar (fun k3=>?_) (fun k3=>?_)
   ·have k3':t[n][m].fCa ≠ 0:=by simpa using k3
    have hc:=hv n m (fAa.has_of hlt hlt2) (by rw [hg]; exact k3');rw [hg] at hc;refine clv_t hc s2 fun r h3 s3=>?_;obtain ⟨hr,s4⟩:=aM.1 s3;have s5:=vW s4;subst hr;cases hP:P n m t[n][m] with
    | false=>exact next (by simp [hP]) _ s5
    | true =>
     unfold gm;refine cg rfl ?_;refine iX (τ:=ba) (i:=0) (enc:=au.C) (val:=fun x=>.agg x.C.toArray) tU wF place_one (fun _=>rfl) (by omega) rfl rfl s5 rfl (by simp; omega) (by simp; omega) fun v h' s6=>?_;rw [hw2];refine ⟨⟨m + 1,rfl,hlt2,?_⟩,by simp; omega⟩;rw [ht,hrap,if_pos ⟨k3',hP⟩,← List.append_assoc];exact s6
   ·have k3':¬ t[n][m].fCa ≠ 0:=by simpa using k3
    exact next (fun hh=>k3' hh.1) _ s2
  ·have:m = 8:=by have:=of_decide_eq_false k2; omega
   subst this;rw [hw];refine ⟨⟨n + 1,rfl,hlt,?_⟩,by simp; omega⟩;have ht:t.take (n + 1) = t.take n++[t[n]]:=by simp
   have hlen:((t.take n).length:Int) = n:=by simp; omega
   rw [ht,all_app,hlen,Int.zero_add];rw [show t[n].take 8 = t[n] from by rw [← hrow]; exact take_length] at s2;exact s2
 ·have:n = t.length:=by rw [hl] at k; simp at k; omega
  subst this;rw [take_length] at s1;exact s1
theorem sp_caps_look (x:Ptr) (t:fAa.T) (e s:Int):Sp prog lT [pv x,.int .i64 e,.int .i64 s] aC [bD x t] (fun r=>pa_ (r = fAa.look t e s) [bD x t]):=by
 intro h s0;obtain ⟨b,sl,rfl,ok,hl,st⟩:=iz s0;refine sim_caps_Tree_look _ _ _ ?_;unfold uE;refine bB rfl ?_;refine bG [0] (tf _ t e s) s0 rfl fun r h1 s1=>?_;obtain ⟨rfl,s2⟩:=aM.1 s1;refine ar (fun k=>?_) (fun k=>?_)
 ·have k':fAa.has t e s = false:=by simpa using k
  exact aw (by unfold fAa.look; rw [if_pos k']) s2
 ·have k':fAa.has t e s = true:=by simpa using k
  obtain ⟨m,n,rfl,rfl,hm,hn⟩:=fAa.has_nat k';obtain ⟨b',sl,hb',ok,hl,st⟩:=iz s2;cases hb';refine bn (aJ sl st (i:=0) rfl rfl rfl ?_);refine bE st (j:=1) rfl (by omega) (by omega) fun q hq=>⟨⟨by omega,by omega⟩,?_⟩
  refine yd (j:=1) (k:=1) (fAa.get t m n).fCa ok k' st rfl hq rfl (c1 rfl rfl) ?_;refine ar (fun k2=>?_) (fun k2=>?_)
  ·have k2':(fAa.get t m n).fCa = 0:=by simpa using k2
   exact aw (by unfold fAa.look; rw [if_neg (by simp [k']),if_pos k2']) s2
  ·have k2':¬ (fAa.get t m n).fCa = 0:=by simpa using k2
   exact aw (by unfold fAa.look; rw [if_neg (by simp [k']),if_neg k2']) s2
theorem rq:∀ (l:List ba) (t:fAa.T) (p:ba),fAa.fSa t (l++[p]) = fAa.put (fAa.fSa t l) p.fBa p.fDa jd
 | [],_,_=>rfl
 | q::l,t,p=>by rw [cons_append,fAa.fSa,fAa.fSa,rq l]
theorem ry (x:Ptr) (t:fAa.T) (s:Sl) (l:List ba) (hl:∀ p ∈ l,fAa.has t p.fBa p.fDa = true) (hb:l.length <= 64) (hok:fAa.Ok (fAa.fSa t l)) :
  Sp prog fM [pv x,sv s] bS [bD x t,vP s l] (fun r=>ah [vP r l,bD x (fAa.fSa t l)]):=by
 intro h s0;obtain ⟨b,sl,rfl,ok,htl,st⟩:=iz s0;have hsl:=(aX (j:=1) s0 rfl).1;refine sim_caps_Tree_empties _ _ ?_;unfold rf;refine Lp.intro (fun (i:Int) h=>∃ n:Nat,i = n/\n <= l.length/\ah [blk b nt [sv sl],vT sl (fAa.fSa t (l.take n)),vP s l] h) (fun (i:Int) _=>l.length - i.toNat) ⟨0,rfl,zero_le _,st⟩ ?_;rintro i h ⟨n,rfl,hn,s1⟩;unfold rr;refine ar (fun k=>?_) (fun k=>?_)
 ·have hlt:n < l.length:=by rw [hsl] at k; simpa using k
  have hw:i64.wrap ((n:Int) + 1) = ((n + 1:Nat):Int):=by rw [aE (by omega) (by omega)]; rfl
  refine bE s1 (j:=2) rfl (by omega) (by omega) fun q hq=>?_;refine bK (j:=2) (i:=n) (k:=0) l[n] wF s1 rfl hq rfl (al hlt) (by simp) ?_;have hh:=hl _ (getElem_mem hlt);have hh2:fAa.has (fAa.fSa t (l.take n)) l[n].fBa l[n].fDa = true:=by rw [fAa.empties_has]; exact hh
  have hh3:=hh2;obtain ⟨i,j,ei,ej,hi,hj⟩:=fAa.has_nat hh3;refine bn (aJ sl s1 (i:=0) rfl rfl rfl ?_);refine bE s1 (j:=1) rfl (by omega) (by omega) fun q2 hq2=>⟨⟨by omega,by omega⟩,?_⟩
  refine st_tree (j:=1) jd (fAa.empties_row _ _ ok.row) hh2 s1 rfl hq2 rfl fun h3 s3=>?_;rw [hw];refine ⟨⟨n + 1,rfl,hlt,?_⟩,by simp; omega⟩;have ht:l.take (n + 1) = l.take n++[l[n]]:=by simp
  rw [ht,rq];exact s3
 ·have:n = l.length:=by rw [hsl] at k; simp at k; omega
  subst this;rw [take_length] at s1;have s2:=tree_cl hok s1;exact aA [1] s2 rfl
theorem sp_caps_Below (x:Ptr) (t:fAa.T) (e s:Int):Sp prog kF [pv x,.int .i64 e,.int .i64 s] bS [bD x t] (fun r=>ah [vP r (fAa.below t e s),bD x t]):=by
 intro h s0;refine sim_caps_Tree_Below _ _ _ ?_;unfold tz;refine nP s0 fun b3 h1 s1=>?_;refine nP s1 fun b4 h2 s2=>?_;refine nP s2 fun b5 h3 s3=>?_;refine aJ x s3 (i:=2) rfl rfl rfl ?_;refine bG [3,2,1,0] (sp_caps_all x t _ (fun _ _ c=>fAa.under t c ⟨e,s⟩) [blk b3 sq [pv x],blk b4 kv [.int .i64 e],blk b5 kv [.int .i64 s]] ?_) s3 rfl fun r h4 s4=>?_
 ·intro a i ha hne;refine ⟨_,_,_,rfl,vD,fun h s5=>?_⟩;refine xE ⟨a,i⟩ (fAa.get t a i) b3 b4 b5 ?_;unfold pE;refine aJ x s5 (i:=1) rfl rfl rfl ?_;refine aJ e s5 (i:=2) rfl rfl rfl ?_;refine aJ s s5 (i:=3) rfl rfl rfl ?_;refine bG [0] (sp_caps_under x t a i ⟨e,s⟩ ha) s5 rfl fun r h6 s6=>?_;obtain ⟨rfl,s7⟩:=aM.1 s6;exact aw rfl s7
 ·have s5:=bT s4;exact lD (l:=[vP r (fAa.below t e s),bD x t]) s5
theorem sp_caps_Revoke (x:Ptr) (t:fAa.T) (e s:Int):Sp prog np [pv x,.int .i64 e,.int .i64 s] cC [bD x t] (fun r=>pa_ (r.2 = (fAa.revoke t e s).1.2) [vP r.1 (fAa.revoke t e s).1.1,bD x (fAa.revoke t e s).2]):=by
 intro h s0;have ok:fAa.Ok t:=by obtain ⟨_,_,_,ok,_⟩:=iz s0; exact ok
 refine sim_caps_Tree_Revoke _ _ _ ?_;unfold sf;refine bG [0] (sp_caps_look x t e s) s0 rfl fun r h1 s1=>?_;obtain ⟨rfl,s2⟩:=aM.1 s1;refine ar (fun k=>?_) (fun k=>?_)
 ·have k':fAa.look t e s ≠ 0:=by simpa using k
  have e1:fAa.revoke t e s = (([],fAa.look t e s),t):=if_pos k';rw [e1];exact aw rfl (dp s2)
 ·have k':¬ fAa.look t e s ≠ 0:=by simpa using k
  have e1:fAa.revoke t e s = ((fAa.below t e s,0),fAa.fSa t (fAa.below t e s)):=if_neg k';rw [e1];refine bG [0] (sp_caps_Below x t e s) s2 rfl fun r h3 s3=>?_;have s4:=bT s3;have h8:(fAa.below t e s).length <= 64:=by
   have:=all_len (fun _ _ c=>fAa.under t c ⟨e,s⟩) t 0 ok.row;have:=ok.len;unfold fAa.below; omega
  refine bG [1,0] (ry x t r (fAa.below t e s) (fun p hp=>((fAa.mem_below ok).1 hp).1) h8 (fAa.ok_below ok e s)) s4 rfl fun v h5 s5=>?_;exact aw rfl (bT s5)
theorem sp_caps_Drop (x:Ptr) (t:fAa.T) (e s:Int):Sp prog lU [pv x,.int .i64 e,.int .i64 s] cC [bD x t] (fun r=>pa_ (r.2 = (fAa.drop t e s).1.2) [vP r.1 (fAa.drop t e s).1.1,bD x (fAa.drop t e s).2]):=by
 intro h s0;have ok:fAa.Ok t:=by obtain ⟨_,_,_,ok,_⟩:=iz s0; exact ok
 refine sim_caps_Tree_Drop _ _ _ ?_;unfold uG;refine nP s0 fun b3 h1 s1=>?_;refine aJ x s1 (i:=0) rfl rfl rfl ?_;refine bG [1] (sp_caps_look x t e s) s1 rfl fun r h2 s2=>?_;obtain ⟨rfl,s3⟩:=aM.1 s2;refine ar (fun k=>?_) (fun k=>?_)
 ·have k':fAa.look t e s ≠ 0:=by simpa using k
  have e1:fAa.drop t e s = (([],fAa.look t e s),t):=if_pos k';rw [e1];exact aw rfl (dp (lD (l:=[bD x t]) s3))
 ·have k':¬ fAa.look t e s ≠ 0:=by simpa using k
  have e1:fAa.drop t e s = ((fAa.own t e s,0),fAa.fSa t (fAa.own t e s)):=if_neg k';rw [e1];have h8:(fAa.own t e s).length <= 64:=by
   have:=all_len (fun a b c=>au.eqb ⟨a,b⟩ ⟨e,s⟩ || fAa.under t c ⟨e,s⟩) t 0 ok.row;have:=ok.len;unfold fAa.own; omega
  refine nP s3 fun b9 h4 s4=>?_;refine mX (i:=0) s4 rfl (by simp [wF]) fun h5 s5=>?_;refine aJ x s5 (i:=2) rfl rfl rfl ?_;have hall:=sp_caps_all x t (.func (.func fN) #[] #[(.pointer (some ⟨b9,0,none⟩)),(.pointer (some ⟨b3,0,none⟩))]) (fun a b c=>au.eqb ⟨a,b⟩ ⟨e,s⟩ || fAa.under t c ⟨e,s⟩) [blk b9 so (⟨e,s⟩:ba).C,blk b3 sq [pv x]] ?_
  ·refine ⟨?_,?_⟩
   ·refine aJ x s5 (i:=2) rfl rfl rfl ?_;refine bG [1,0,0] hall s5 rfl fun r h6 s6=>?_;have s7:=bT s6;refine bG [1,0] (ry x t r (fAa.own t e s) (fun p hp=>((fAa.mem_own ok).1 hp).1) h8 (fAa.ok_own ok e s)) s7 rfl fun v h8 s8=>?_;exact aw rfl (lD (l:=[vP v (fAa.own t e s),bD x (fAa.fSa t (fAa.own t e s))]) (bT s8))
   ·refine bG [1,0,0] hall s5 rfl fun r h6 s6=>?_;have s7:=bT s6;refine aJ x s7 (i:=3) rfl rfl rfl ?_;refine bG [1,0] (ry x t r (fAa.own t e s) (fun p hp=>((fAa.mem_own ok).1 hp).1) h8 (fAa.ok_own ok e s)) s7 rfl fun v h8 s8=>?_;exact aw rfl (lD (l:=[vP v (fAa.own t e s),bD x (fAa.fSa t (fAa.own t e s))]) (bT s8))
  ·intro a i ha hne;refine ⟨_,_,_,rfl,wR,fun h s6=>?_⟩;refine sim_caps_Tree_Drop_c1 ⟨a,i⟩ (fAa.get t a i) b9 b3 ?_;unfold rg;refine ld_s (i:=1) (⟨e,s⟩:ba) s6 rfl (by simp) ?_;refine ar (fun k=>?_) (fun k=>?_)
   ·have k':au.eqb ⟨a,i⟩ ⟨e,s⟩ = false:=by simpa using k
    refine aJ x s6 (i:=2) rfl rfl rfl ?_;refine ld_s (i:=1) (⟨e,s⟩:ba) s6 rfl (by simp) ?_;refine bG [0] (sp_caps_under x t a i ⟨e,s⟩ ha) s6 rfl fun r h7 s7=>?_;obtain ⟨rfl,s8⟩:=aM.1 s7;exact aw (by rw [k']; rfl) s8
   ·have k':au.eqb ⟨a,i⟩ ⟨e,s⟩ = true:=by simpa using k
    exact aw (by rw [k']; rfl) s6
end
end Go.Proofs.YtjcamacgclipiaaGreatDoor
