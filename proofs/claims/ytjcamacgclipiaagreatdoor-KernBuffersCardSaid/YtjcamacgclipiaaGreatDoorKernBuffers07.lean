/- Part of the proof of: The law KernBuffers returns true for every input, and leaves its arguments as they were. -/
import Derived.Test.YtjcamacgclipiaaGreatDoorKernBuffers06
set_option linter.all false
set_option maxRecDepth 20000
set_option maxHeartbeats 4000000
namespace Go.Proofs.YtjcamacgclipiaaGreatDoor
open Go.Proofs.Tryz
open Go.IntKind (i64 u64)
open _root_.Int (toNat_natCast)
open _root_.List (getD_eq_getElem?_getD replicate)
open _root_.Nat (le_refl)
section
open Go Mb
namespace Table
theorem get_snd (ps:List Pte) (i:Int):(get ps i).2 = decide ((get ps i).1.fCa ≠ 0):=by
 unfold get; split
 ·rename_i h; simp [h.2]
 ·rfl
theorem get_at {ps:List Pte} {i:Int} (h:aK i = true) (hr:(at_ ps i).fCa ≠ 0):get ps i = (at_ ps i,true):=by unfold get; rw [if_pos ⟨h,hr⟩]
theorem get_no {ps:List Pte} {i:Int} (h:¬ (aK i = true/\(at_ ps i).fCa ≠ 0)):get ps i = (cc,false):=by unfold get; rw [if_neg h]
theorem at_set {ps:List Pte} (hl:ps.length = 8) {i j:Int} (hi:aK i = true) (hj:aK j = true) (p:Pte):at_ (ps.set i.toNat p) j = if j = i then p else at_ ps j:=by
 obtain ⟨n,rfl,hn⟩:=kJ hi;obtain ⟨m,rfl,hm⟩:=kJ hj;simp only [at_,toNat_natCast,getD_eq_getElem?_getD,List.getElem?_set];by_cases e:n = m
 ·subst e; simp [hl,hn]
 ·have:¬ ((m:Int) = n):=by omega
  rw [if_neg e,if_neg this]
theorem get_set {ps:List Pte} (hl:ps.length = 8) {i:Int} (hi:aK i = true) (p:Pte) (j:Int):get (ps.set i.toNat p) j = if j = i then (if p.fCa ≠ 0 then (p,true) else (cc,false)) else get ps j:=by
 by_cases hj:aK j = true
 ·unfold get;rw [at_set hl hi hj];by_cases e:j = i
  ·subst e; simp only [if_true,hj,true_and]
  ·simp only [if_neg e]
 ·have e:j ≠ i:=fun e=>hj (e ▸ hi);rw [if_neg e,get_no (fun h=>hj h.1),get_no (fun h=>hj h.1)]
theorem get_insert {ps:List Pte} (hl:ps.length = 8) (i:Int) (p:Pte) (h0:(insert ps i p).1 = 0) (j:Int):get (insert ps i p).2 j = if j = i then (p,true) else get ps j:=by
 unfold insert at h0 ⊢;by_cases h1:(cK p).2 = false\/p.fCa = 0\/aK i = false
 ·rw [if_pos h1] at h0; cases h0
 ·rw [if_neg h1] at h0 ⊢;by_cases h2:(at_ ps i).fCa ≠ 0
  ·rw [if_pos h2] at h0; cases h0
  ·rw [if_neg h2];simp only [not_or,Bool.not_eq_false] at h1;rw [get_set hl h1.2.2,if_pos h1.2.1]
theorem insert_same {ps:List Pte} (i:Int) (p:Pte) (h0:(insert ps i p).1 ≠ 0):(insert ps i p).2 = ps:=by
 unfold insert at h0 ⊢;split
 ·rfl
 ·rename_i h1;rw [if_neg h1] at h0;split
  ·rfl
  ·rename_i h2; rw [if_neg h2] at h0; exact absurd rfl h0
theorem get_remove {ps:List Pte} (hl:ps.length = 8) (i j:Int):get (remove ps i).2 j = if j = i then (cc,false) else get ps j:=by
 unfold remove;by_cases h1:aK i = false
 ·rw [if_pos h1];by_cases e:j = i
  ·subst e; rw [if_pos rfl,get_no (fun h=>by rw [h1] at h; exact Bool.false_ne_true h.1)]
  ·rw [if_neg e]
 ·rw [if_neg h1];have h1':aK i = true:=by simpa using h1
  by_cases h2:(at_ ps i).fCa = 0
  ·rw [if_pos h2];by_cases e:j = i
   ·subst e; rw [if_pos rfl,get_no (fun h=>h.2 h2)]
   ·rw [if_neg e]
  ·rw [if_neg h2,get_set hl h1'];simp
theorem get_protect {ps:List Pte} (hl:ps.length = 8) (i r:Int) (j:Int) (h:(get ps i).2 = true) (hr:aS r = true):get (protect ps i r).2 j = if j = i then ({ (get ps i).1 with fCa:=r },true) else get ps j:=by
 have hi:aK i = true/\(at_ ps i).fCa ≠ 0:=by
  by_cases hh:aK i = true/\(at_ ps i).fCa ≠ 0
  ·exact hh
  ·rw [get_no hh] at h; cases h
 have hr0:r ≠ 0:=by have:=oM.1 hr; omega
 unfold protect;rw [if_neg (by rw [hi.1,hr]; simp),if_neg hi.2,get_set hl hi.1,get_at hi.1 hi.2];simp [hr0]
theorem protect_zero {ps:List Pte} (i r:Int) (h:(get ps i).2 = true) (hr:aS r = true):(protect ps i r).1 = 0:=by
 have hi:aK i = true/\(at_ ps i).fCa ≠ 0:=by
  by_cases hh:aK i = true/\(at_ ps i).fCa ≠ 0
  ·exact hh
  ·rw [get_no hh] at h; cases h
 unfold protect;rw [if_neg (by rw [hi.1,hr]; simp),if_neg hi.2]
theorem remove_len (ps:List Pte) (i:Int):(remove ps i).2.length = ps.length:=by unfold remove; split <;> (try split) <;> simp
theorem mem_byFrom {s x:Int}:∀ {ps:List Pte} {i:Int},x ∈ byFrom s ps i↔∃ (n:Nat) (p:Pte),ps[n]? = some p/\x = i + n/\p.fCa ≠ 0/\p.fDa = s
 | [],i=>by simp [byFrom]
 | d::ps,i=>by
  have ih:=mem_byFrom (s:=s) (x:=x) (ps:=ps) (i:=i + 1);have sp:(∃ (n:Nat) (p:Pte),(d::ps)[n]? = some p/\x = i + n/\p.fCa ≠ 0/\p.fDa = s)↔(x = i/\d.fCa ≠ 0/\d.fDa = s)\/∃ (n:Nat) (p:Pte),ps[n]? = some p/\x = i + 1 + n/\p.fCa ≠ 0/\p.fDa = s:=by
   constructor
   ·rintro ⟨n,e,h1,h2,h3⟩;cases n with
    | zero=>simp at h1; subst h1; exact .inl ⟨by simpa using h2,h3⟩
    | succ n=>exact .inr ⟨n,e,by simpa using h1,by omega,h3⟩
   ·rintro (⟨h2,h3⟩ | ⟨n,e,h1,h2,h3⟩)
    ·exact ⟨0,d,rfl,by simpa using h2,h3⟩
    ·exact ⟨n + 1,e,by simpa using h1,by omega,h3⟩
  rw [sp,← ih,byFrom];split
  ·rename_i hd;rw [List.mem_cons];constructor
   ·rintro (h | h)
    ·exact .inl ⟨h,hd⟩
    ·exact .inr h
   ·rintro (h | h)
    ·exact .inl h.1
    ·exact .inr h
  ·rename_i hd;constructor
   ·exact .inr
   ·rintro (h | h)
    ·exact absurd h.2 hd
    ·exact h
theorem mem_by {ps:List Pte} (hl:ps.length = 8) {s x:Int}:x ∈ by_ ps s↔(get ps x).2 = true/\(get ps x).1.fDa = s:=by
 unfold by_;rw [mem_byFrom];constructor
 ·rintro ⟨n,p,h1,rfl,h2,h3⟩;have hn:=(List.getElem?_eq_some_iff.1 h1).1;have hi:aK ((0:Int) + n) = true:=by unfold aK; simp; omega
  have ha:at_ ps ((0:Int) + n) = p:=by simp [at_,h1]
  rw [get_at hi (by rw [ha]; exact h2),ha];exact ⟨rfl,h3⟩
 ·rintro ⟨h1,h2⟩;by_cases hh:aK x = true/\(at_ ps x).fCa ≠ 0
  ·rw [get_at hh.1 hh.2] at h2;obtain ⟨n,rfl,hn⟩:=kJ hh.1;refine ⟨n,at_ ps n,?_,by simp,hh.2,h2⟩;have:n < ps.length:=by omega
   simp [at_,this]
  ·rw [get_no hh] at h1; cases h1
end Table
namespace PK
def q (k:PK) (e pg:Int):Pte:=(pte k e pg).1
theorem pte_snd (k:PK) (e pg:Int):(pte k e pg).2 = decide ((q k e pg).fCa ≠ 0):=by
 unfold q pte; split
 ·rfl
 ·exact Table.get_snd _ _
theorem off_iff {k:PK} {e:Int}:off k e = false↔0 <= e/\e < k.s.fHa:=by unfold off; simp
theorem q_on {k:PK} {e pg:Int} (h:(q k e pg).fCa ≠ 0):off k e = false/\(Table.get (tab k e) pg).2 = true/\q k e pg = (Table.get (tab k e) pg).1:=by
 cases ho:off k e with
 | true=>unfold q pte at h; rw [if_pos ho] at h; exact absurd rfl h
 | false =>
  have e1:q k e pg = (Table.get (tab k e) pg).1:=by unfold q pte; rw [if_neg (by rw [ho]; exact Bool.false_ne_true)]
  refine ⟨rfl,?_,e1⟩;rw [Table.get_snd,← e1]; simpa using h
theorem q_get {k:PK} {e:Int} (h:off k e = false) (pg:Int):q k e pg = (Table.get (tab k e) pg).1:=by unfold q pte; rw [if_neg (by rw [h]; exact Bool.false_ne_true)]
theorem tab_in {k:PK} (ok:PK.Ok k) {e:Int} (h:off k e = false):e.toNat < k.tabs.length/\(tab k e).length = 8:=by
 have h1:=off_iff.1 h;have h2:=ok.tl;have:e.toNat < k.tabs.length:=by omega
 exact ⟨this,(tab_ok ok e this).1⟩
theorem tab_set' {k:PK} (ok:PK.Ok k) {e:Int} (h:off k e = false) (ps:List Pte) {a:Int} (ha:off k a = false):tab { k with tabs:=k.tabs.set e.toNat ps } a = if a = e then ps else tab k a:=by
 have h1:=off_iff.1 h;have h2:=off_iff.1 ha;have h3:=(tab_in ok h).1;have h4:=(tab_in ok ha).1;simp only [tab,getD_eq_getElem?_getD,List.getElem?_set];by_cases e1:a = e
 ·subst e1; simp [h3]
 ·have:¬ e.toNat = a.toNat:=by omega
  rw [if_neg this,if_neg e1]
theorem q_tabs {k:PK} (ok:PK.Ok k) {e:Int} (h:off k e = false) (ps:List Pte) (a pg:Int):q { k with tabs:=k.tabs.set e.toNat ps } a pg = if a = e then (Table.get ps pg).1 else q k a pg:=by
 cases ha:off k a with
 | true =>
  have e1:a ≠ e:=fun e1=>by rw [e1,h] at ha; cases ha
  rw [if_neg e1];unfold q pte;have:off { k with tabs:=k.tabs.set e.toNat ps } a = true:=ha;rw [if_pos this,if_pos ha]
 | false =>
  have h':off { k with tabs:=k.tabs.set e.toNat ps } a = false:=ha;rw [q_get h',tab_set' ok h ps ha];split
  ·rfl
  ·rw [q_get ha]
structure Fine (k:PK):Prop where
 ok:PK.Ok k
 by_:∀ e pg,(q k e pg).fCa ≠ 0->fAa.has k.caps e (q k e pg).fDa = true/\(fAa.get k.caps e (q k e pg).fDa).fEa = (q k e pg).fEa/\ap (q k e pg).fCa (fAa.get k.caps e (q k e pg).fDa).fCa = true
 num:∀ f:Int,0 <= f->f < k.s.fUa->Pool.refs k.pool f = fAa.cnt f k.caps
theorem q_new (s:dc) (e pg:Int):q (new s) e pg = cc:=by
 unfold q pte;split
 ·rfl
 ·rename_i h;have h':off (new s) e = false:=by simpa using h
  have h1:=off_iff.1 h';have h2:e < s.fHa:=h1.2;have:tab (new s) e = replicate 8 cc:=by
   simp only [tab,new,getD_eq_getElem?_getD,List.getElem?_replicate];rw [if_pos (by omega)]; rfl
  rw [this];unfold Table.get;split
  ·rename_i hh
   exfalso; apply hh.2
   simp only [Table.at_,getD_eq_getElem?_getD,List.getElem?_replicate];split <;> rfl
  ·rfl
theorem fine_new {s:dc} (h:sized s = true):Fine (new s):=by
 refine ⟨ok_new h,fun e pg hq=>by rw [q_new] at hq; exact absurd rfl hq,fun f h0 h1=>?_⟩;have:fAa.cnt f (new s).caps = 0:=fAa.cnt_new f _;rw [this];unfold Pool.refs;rw [if_neg (by omega)];simp only [new,getD_eq_getElem?_getD,List.getElem?_replicate];split <;> rfl
theorem touch_same (k:PK) (f:Int) (c:bv):(touch k f c).2.caps = k.caps/\(touch k f c).2.tabs = k.tabs/\(touch k f c).2.pool = k.pool/\(touch k f c).2.s = k.s:=by
 unfold touch
 repeat' split
 all_goals exact ⟨rfl,rfl,rfl,rfl⟩
theorem q_same {k k':PK} (h1:k'.tabs = k.tabs) (h2:k'.s = k.s) (e pg:Int):q k' e pg = q k e pg:=by
 unfold q pte off tab; rw [h1,h2]
theorem fine_same {k k':PK} (F:Fine k) (ok:PK.Ok k') (h0:k'.caps = k.caps) (h1:k'.tabs = k.tabs) (h2:k'.s = k.s) (h3:k'.pool = k.pool):Fine k' :=
 ⟨ok,fun e pg hq=>by rw [q_same h1 h2] at hq ⊢; rw [h0]; exact F.by_ e pg hq,fun f a b=>by rw [h0,h3]; exact F.num f a (by rw [← h2]; exact b)⟩
theorem fine_touch {k:PK} (F:Fine k) (f:Int) (c:bv):Fine (touch k f c).2 :=
 have h:=touch_same k f c
 fine_same F (ok_touch F.ok f c) h.1 h.2.1 h.2.2.2 h.2.2.1
end PK
end
section
open Go Mb
structure Cw (c:bv):Prop where
 c0:0 <= c.e0
 c1:0 <= c.e1
 c2:0 <= c.e2
 c3:0 <= c.e3
 c4:0 <= c.e4
theorem kwr {x:Int} (h0:0 <= x) (h1:x < 16):i64.wrap x = x:=aE (by omega) (by omega)
theorem kind_of {c:bv}:(am c).2 = true↔(1 <= c.e0/\c.e0 <= 10\/20 <= c.e0/\c.e0 <= 23):=by
 unfold am;by_cases h:(1 <= c.e0/\c.e0 <= 10\/20 <= c.e0/\c.e0 <= 23)
 ·have:(((decide (c.e0 >= 1)) && (decide (c.e0 <= 10))) || ((decide (c.e0 >= 20)) && (decide (c.e0 <= 23)))) = true:=by simpa using h
  rw [this]; simp [h]
 ·have:(((decide (c.e0 >= 1)) && (decide (c.e0 <= 10))) || ((decide (c.e0 >= 20)) && (decide (c.e0 <= 23)))) = false:=by
   cases hb:(((decide (c.e0 >= 1)) && (decide (c.e0 <= 10))) || ((decide (c.e0 >= 20)) && (decide (c.e0 <= 23)))) with
   | false=>rfl
   | true=>exact absurd (by simpa using hb) h
  rw [this]; simp [h]
theorem oN {c:bv} (h:1 <= c.e0/\c.e0 <= 10\/20 <= c.e0/\c.e0 <= 23):am c = (c.e0,true):=by
 unfold am;have:(((decide (c.e0 >= 1)) && (decide (c.e0 <= 10))) || ((decide (c.e0 >= 20)) && (decide (c.e0 <= 23)))) = true:=by simpa using h
 rw [this];show (i64.wrap c.e0,true) = _;rw [aE (by omega) (by omega)]
theorem kind_no {c:bv} (h:¬ (1 <= c.e0/\c.e0 <= 10\/20 <= c.e0/\c.e0 <= 23)):am c = (0,false):=by
 unfold am;have:(((decide (c.e0 >= 1)) && (decide (c.e0 <= 10))) || ((decide (c.e0 >= 20)) && (decide (c.e0 <= 23)))) = false:=by
  cases hb:(((decide (c.e0 >= 1)) && (decide (c.e0 <= 10))) || ((decide (c.e0 >= 20)) && (decide (c.e0 <= 23)))) with
  | false=>rfl
  | true=>exact absurd (by simpa using hb) h
 rw [this]; rfl
structure Well (n:Int) (c:bv):Prop where
 kind:1 <= c.e0/\c.e0 <= 10\/20 <= c.e0/\c.e0 <= 23
 w1:c.e0 ≠ 10->c.e1 < 8
 w2:c.e0 = 2\/c.e0 = 6->c.e2 < 8
 w3:c.e0 = 3->c.e2 < n/\c.e3 < 8/\1 <= c.e4/\c.e4 <= 3
 w4:c.e0 = 2\/c.e0 = 6->1 <= c.e3/\c.e3 <= 3
 w5:c.e0 = 8->1 <= c.e2/\c.e2 <= 3
 w6:c.e0 = 9->c.e2 < 16/\1 <= c.e3/\c.e3 <= 4
 w7:20 <= c.e0->c.e2 < 16
theorem rights_of {w:Int}:(gt w).2 = true↔1 <= w/\w <= 3:=by
 unfold gt;cases h:((decide (w < 1)) || (decide (w > 3))) with
 | true=>simp at h ⊢; omega
 | false=>simp at h ⊢; omega
theorem arg_of {c:bv} {i m:Int} (hi:1 <= i) (hi5:i < 5) (hm:0 < m) (hm2:m < 2 ^ 60):(Word.arg c i m).2 = true↔aa.get c i < m:=by
 have hw:u64.wrap m = m:=by simp only [IntKind.wrap]; first | omega | (simp [IntKind.bits,IntKind.signed]; omega)
 unfold Word.arg;rw [hw];by_cases h:aa.get c i < m
 ·rw [if_neg (by omega)]; simp [h]
 ·rw [if_pos (by omega)]; simp [h]
theorem iW {c:bv} {n k i:Int} {ks:List Int}:Word.checks c n (k::ks) i = 0↔Word.fits c i k n = true/\Word.checks c n ks (i + 1) = 0:=by
 rw [Word.checks];split
 ·rename_i h; simp [h]
 ·rename_i h; simp [h]
theorem ja {c:bv} {i n:Int} (hi:1 <= i) (hi5:i < 5):Word.fits c i 0 n = true↔aa.get c i < 8:=by unfold Word.fits; rw [if_pos rfl]; exact arg_of hi hi5 (by decide) (by decide)
theorem fit1 {c:bv} {i n:Int} (hi:1 <= i) (hi5:i < 5):Word.fits c i 1 n = true↔aa.get c i < 8:=by unfold Word.fits; rw [if_neg (by decide),if_pos rfl]; exact arg_of hi hi5 (by decide) (by decide)
theorem fit2 {c:bv} {i n:Int} (hi:1 <= i) (hi5:i < 5):Word.fits c i 2 n = true↔aa.get c i < 16:=by unfold Word.fits; rw [if_neg (by decide),if_neg (by decide),if_pos rfl]; exact arg_of hi hi5 (by decide) (by decide)
theorem fit3 {c:bv} {i n:Int} (hi:1 <= i) (hi5:i < 5) (hn:0 < n) (hn2:n < 2 ^ 60):Word.fits c i 3 n = true↔aa.get c i < n:=by unfold Word.fits; rw [if_neg (by decide),if_neg (by decide),if_neg (by decide),if_pos rfl]; exact arg_of hi hi5 hn hn2
theorem fit4 {c:bv} {i n:Int}:Word.fits c i 4 n = true↔1 <= aa.get c i/\aa.get c i <= 3:=by unfold Word.fits; rw [if_neg (by decide),if_neg (by decide),if_neg (by decide),if_neg (by decide),if_pos rfl]; exact rights_of
theorem fit5 {c:bv} {i n:Int}:Word.fits c i 5 n = true↔1 <= aa.get c i/\aa.get c i <= 4:=by unfold Word.fits; rw [if_neg (by decide),if_neg (by decide),if_neg (by decide),if_neg (by decide),if_neg (by decide),if_pos rfl]; simp
theorem fit6 {c:bv} {i n:Int}:Word.fits c i 6 n = true:=by unfold Word.fits; rw [if_neg (by decide),if_neg (by decide),if_neg (by decide),if_neg (by decide),if_neg (by decide),if_neg (by decide)]
theorem get1 (c:bv):aa.get c 1 = c.e1:=rfl
theorem get2 (c:bv):aa.get c 2 = c.e2:=rfl
theorem get3 (c:bv):aa.get c 3 = c.e3:=rfl
theorem get4 (c:bv):aa.get c 4 = c.e4:=rfl
theorem qn {n:Int} {c:bv} (hn:1 <= n) (hn2:n <= 4) (h:Word.check c n = 0):Well n c:=by
 unfold Word.check at h;split at h
 ·cases h
 ·rename_i hk;have hk':=kind_of.1 (by simpa using hk);rw [oN hk'] at h;have key:∀ (v:Int) (ks:List Int),c.e0 = v->Word.kinds v = ks->Word.checks c n ks 1 = 0:=fun v ks e1 e2=>by rw [← e2,← e1]; exact h
  have a1:(1:Int) + 1 = 2:=rfl;have a2:(2:Int) + 1 = 3:=rfl;have a3:(3:Int) + 1 = 4:=rfl;have cases0:c.e0 = 1\/c.e0 = 2\/c.e0 = 3\/c.e0 = 4\/c.e0 = 5\/c.e0 = 6\/c.e0 = 7\/c.e0 = 8\/c.e0 = 9\/c.e0 = 10\/c.e0 = 20\/c.e0 = 21\/c.e0 = 22\/c.e0 = 23:=by omega
  rcases cases0 with e | e | e | e | e | e | e | e | e | e | e | e | e | e
  ·have hh:=key 1 [0] e (by decide);simp only [iW,a1,a2,a3,ja (c:=c) (n:=n) (i:=1) (by decide) (by decide),ja (c:=c) (n:=n) (i:=2) (by decide) (by decide),ja (c:=c) (n:=n) (i:=3) (by decide) (by decide),fit1 (c:=c) (n:=n) (i:=1) (by decide) (by decide),fit2 (c:=c) (n:=n) (i:=2) (by decide) (by decide),fit3 (c:=c) (n:=n) (i:=2) (by decide) (by decide) (by omega) (by omega),fit4,fit5,fit6,get1,get2,get3,get4] at hh;exact ⟨hk',fun _=>by omega,fun _=>by omega,fun _=>by omega,fun _=>by omega,fun _=>by omega,fun _=>by omega,fun _=>by omega⟩
  ·have hh:=key 2 [0,0,4] e (by decide);simp only [iW,a1,a2,a3,ja (c:=c) (n:=n) (i:=1) (by decide) (by decide),ja (c:=c) (n:=n) (i:=2) (by decide) (by decide),ja (c:=c) (n:=n) (i:=3) (by decide) (by decide),fit1 (c:=c) (n:=n) (i:=1) (by decide) (by decide),fit2 (c:=c) (n:=n) (i:=2) (by decide) (by decide),fit3 (c:=c) (n:=n) (i:=2) (by decide) (by decide) (by omega) (by omega),fit4,fit5,fit6,get1,get2,get3,get4] at hh;exact ⟨hk',fun _=>by omega,fun _=>by omega,fun _=>by omega,fun _=>by omega,fun _=>by omega,fun _=>by omega,fun _=>by omega⟩
  ·have hh:=key 3 [0,3,0,4] e (by decide);simp only [iW,a1,a2,a3,ja (c:=c) (n:=n) (i:=1) (by decide) (by decide),ja (c:=c) (n:=n) (i:=2) (by decide) (by decide),ja (c:=c) (n:=n) (i:=3) (by decide) (by decide),fit1 (c:=c) (n:=n) (i:=1) (by decide) (by decide),fit2 (c:=c) (n:=n) (i:=2) (by decide) (by decide),fit3 (c:=c) (n:=n) (i:=2) (by decide) (by decide) (by omega) (by omega),fit4,fit5,fit6,get1,get2,get3,get4] at hh;exact ⟨hk',fun _=>by omega,fun _=>by omega,fun _=>by omega,fun _=>by omega,fun _=>by omega,fun _=>by omega,fun _=>by omega⟩
  ·have hh:=key 4 [0] e (by decide);simp only [iW,a1,a2,a3,ja (c:=c) (n:=n) (i:=1) (by decide) (by decide),ja (c:=c) (n:=n) (i:=2) (by decide) (by decide),ja (c:=c) (n:=n) (i:=3) (by decide) (by decide),fit1 (c:=c) (n:=n) (i:=1) (by decide) (by decide),fit2 (c:=c) (n:=n) (i:=2) (by decide) (by decide),fit3 (c:=c) (n:=n) (i:=2) (by decide) (by decide) (by omega) (by omega),fit4,fit5,fit6,get1,get2,get3,get4] at hh;exact ⟨hk',fun _=>by omega,fun _=>by omega,fun _=>by omega,fun _=>by omega,fun _=>by omega,fun _=>by omega,fun _=>by omega⟩
  ·have hh:=key 5 [0] e (by decide);simp only [iW,a1,a2,a3,ja (c:=c) (n:=n) (i:=1) (by decide) (by decide),ja (c:=c) (n:=n) (i:=2) (by decide) (by decide),ja (c:=c) (n:=n) (i:=3) (by decide) (by decide),fit1 (c:=c) (n:=n) (i:=1) (by decide) (by decide),fit2 (c:=c) (n:=n) (i:=2) (by decide) (by decide),fit3 (c:=c) (n:=n) (i:=2) (by decide) (by decide) (by omega) (by omega),fit4,fit5,fit6,get1,get2,get3,get4] at hh;exact ⟨hk',fun _=>by omega,fun _=>by omega,fun _=>by omega,fun _=>by omega,fun _=>by omega,fun _=>by omega,fun _=>by omega⟩
  ·have hh:=key 6 [1,0,4] e (by decide);simp only [iW,a1,a2,a3,ja (c:=c) (n:=n) (i:=1) (by decide) (by decide),ja (c:=c) (n:=n) (i:=2) (by decide) (by decide),ja (c:=c) (n:=n) (i:=3) (by decide) (by decide),fit1 (c:=c) (n:=n) (i:=1) (by decide) (by decide),fit2 (c:=c) (n:=n) (i:=2) (by decide) (by decide),fit3 (c:=c) (n:=n) (i:=2) (by decide) (by decide) (by omega) (by omega),fit4,fit5,fit6,get1,get2,get3,get4] at hh;exact ⟨hk',fun _=>by omega,fun _=>by omega,fun _=>by omega,fun _=>by omega,fun _=>by omega,fun _=>by omega,fun _=>by omega⟩
  ·have hh:=key 7 [1] e (by decide);simp only [iW,a1,a2,a3,ja (c:=c) (n:=n) (i:=1) (by decide) (by decide),ja (c:=c) (n:=n) (i:=2) (by decide) (by decide),ja (c:=c) (n:=n) (i:=3) (by decide) (by decide),fit1 (c:=c) (n:=n) (i:=1) (by decide) (by decide),fit2 (c:=c) (n:=n) (i:=2) (by decide) (by decide),fit3 (c:=c) (n:=n) (i:=2) (by decide) (by decide) (by omega) (by omega),fit4,fit5,fit6,get1,get2,get3,get4] at hh;exact ⟨hk',fun _=>by omega,fun _=>by omega,fun _=>by omega,fun _=>by omega,fun _=>by omega,fun _=>by omega,fun _=>by omega⟩
  ·have hh:=key 8 [1,4] e (by decide);simp only [iW,a1,a2,a3,ja (c:=c) (n:=n) (i:=1) (by decide) (by decide),ja (c:=c) (n:=n) (i:=2) (by decide) (by decide),ja (c:=c) (n:=n) (i:=3) (by decide) (by decide),fit1 (c:=c) (n:=n) (i:=1) (by decide) (by decide),fit2 (c:=c) (n:=n) (i:=2) (by decide) (by decide),fit3 (c:=c) (n:=n) (i:=2) (by decide) (by decide) (by omega) (by omega),fit4,fit5,fit6,get1,get2,get3,get4] at hh;exact ⟨hk',fun _=>by omega,fun _=>by omega,fun _=>by omega,fun _=>by omega,fun _=>by omega,fun _=>by omega,fun _=>by omega⟩
  ·have hh:=key 9 [0,2,5,6] e (by decide);simp only [iW,a1,a2,a3,ja (c:=c) (n:=n) (i:=1) (by decide) (by decide),ja (c:=c) (n:=n) (i:=2) (by decide) (by decide),ja (c:=c) (n:=n) (i:=3) (by decide) (by decide),fit1 (c:=c) (n:=n) (i:=1) (by decide) (by decide),fit2 (c:=c) (n:=n) (i:=2) (by decide) (by decide),fit3 (c:=c) (n:=n) (i:=2) (by decide) (by decide) (by omega) (by omega),fit4,fit5,fit6,get1,get2,get3,get4] at hh;exact ⟨hk',fun _=>by omega,fun _=>by omega,fun _=>by omega,fun _=>by omega,fun _=>by omega,fun _=>by omega,fun _=>by omega⟩
  ·have hh:=key 10 [] e (by decide);exact ⟨hk',fun _=>by omega,fun _=>by omega,fun _=>by omega,fun _=>by omega,fun _=>by omega,fun _=>by omega,fun _=>by omega⟩
  ·have hh:=key 20 [1,2] e (by decide);simp only [iW,a1,a2,a3,ja (c:=c) (n:=n) (i:=1) (by decide) (by decide),ja (c:=c) (n:=n) (i:=2) (by decide) (by decide),ja (c:=c) (n:=n) (i:=3) (by decide) (by decide),fit1 (c:=c) (n:=n) (i:=1) (by decide) (by decide),fit2 (c:=c) (n:=n) (i:=2) (by decide) (by decide),fit3 (c:=c) (n:=n) (i:=2) (by decide) (by decide) (by omega) (by omega),fit4,fit5,fit6,get1,get2,get3,get4] at hh;exact ⟨hk',fun _=>by omega,fun _=>by omega,fun _=>by omega,fun _=>by omega,fun _=>by omega,fun _=>by omega,fun _=>by omega⟩
  ·have hh:=key 21 [1,2,6] e (by decide);simp only [iW,a1,a2,a3,ja (c:=c) (n:=n) (i:=1) (by decide) (by decide),ja (c:=c) (n:=n) (i:=2) (by decide) (by decide),ja (c:=c) (n:=n) (i:=3) (by decide) (by decide),fit1 (c:=c) (n:=n) (i:=1) (by decide) (by decide),fit2 (c:=c) (n:=n) (i:=2) (by decide) (by decide),fit3 (c:=c) (n:=n) (i:=2) (by decide) (by decide) (by omega) (by omega),fit4,fit5,fit6,get1,get2,get3,get4] at hh;exact ⟨hk',fun _=>by omega,fun _=>by omega,fun _=>by omega,fun _=>by omega,fun _=>by omega,fun _=>by omega,fun _=>by omega⟩
  ·have hh:=key 22 [1,2,6,6] e (by decide);simp only [iW,a1,a2,a3,ja (c:=c) (n:=n) (i:=1) (by decide) (by decide),ja (c:=c) (n:=n) (i:=2) (by decide) (by decide),ja (c:=c) (n:=n) (i:=3) (by decide) (by decide),fit1 (c:=c) (n:=n) (i:=1) (by decide) (by decide),fit2 (c:=c) (n:=n) (i:=2) (by decide) (by decide),fit3 (c:=c) (n:=n) (i:=2) (by decide) (by decide) (by omega) (by omega),fit4,fit5,fit6,get1,get2,get3,get4] at hh;exact ⟨hk',fun _=>by omega,fun _=>by omega,fun _=>by omega,fun _=>by omega,fun _=>by omega,fun _=>by omega,fun _=>by omega⟩
  ·have hh:=key 23 [1,2,6] e (by decide);simp only [iW,a1,a2,a3,ja (c:=c) (n:=n) (i:=1) (by decide) (by decide),ja (c:=c) (n:=n) (i:=2) (by decide) (by decide),ja (c:=c) (n:=n) (i:=3) (by decide) (by decide),fit1 (c:=c) (n:=n) (i:=1) (by decide) (by decide),fit2 (c:=c) (n:=n) (i:=2) (by decide) (by decide),fit3 (c:=c) (n:=n) (i:=2) (by decide) (by decide) (by omega) (by omega),fit4,fit5,fit6,get1,get2,get3,get4] at hh;exact ⟨hk',fun _=>by omega,fun _=>by omega,fun _=>by omega,fun _=>by omega,fun _=>by omega,fun _=>by omega,fun _=>by omega⟩
namespace fAa
structure Keep (t t':T) (a b:Int):Prop where
 g:get t' a b = get t a b
 u:∀ p,under t' (get t a b) p = under t (get t a b) p
theorem Keep.refl (t:T) (a b:Int):Keep t t a b:=⟨rfl,fun _=>rfl⟩
theorem Keep.trans {t t' t'':T} {a b:Int} (h:Keep t t' a b) (h':Keep t' t'' a b):Keep t t'' a b :=
 ⟨h'.g.trans h.g,fun p=>by have:=h'.u p; rw [h.g] at this; rw [this]; exact h.u p⟩
theorem keep_put {t:T} (ok:Ok t) {e s:Int} (h:has t e s = true) (h0:(get t e s).fCa = 0) {c:Cap} (hc:0 <= c.fBa->has t c.fBa c.fDa = true/\(get t c.fBa c.fDa).fCa ≠ 0) {a b:Int} (hab:has t a b = true) (hne:(get t a b).fCa ≠ 0):Keep t (put t e s c) a b :=
 ⟨by rw [get_put ok.row h hab,if_neg]; rintro ⟨rfl,rfl⟩; exact hne h0,fun p=>under_put ok h h0 hc p _ a b (le_refl _) hab hne⟩
theorem keep_empties {t:T} (ok:Ok t) {l:List ba} (hl:∀ p ∈ l,has t p.fBa p.fDa = true)
  (cl:∀ e s,has t e s = true->(get t e s).fCa ≠ 0->0 <= (get t e s).fBa->(⟨(get t e s).fBa,(get t e s).fDa⟩:ba) ∈ l->(⟨e,s⟩:ba) ∈ l) {a b:Int} (hab:has t a b = true) (hne:(get t a b).fCa ≠ 0) (hm:(⟨a,b⟩:ba) ∉ l):Keep t (fSa t l) a b :=
 ⟨by rw [empties_get l t ok.row hl a b hab,if_neg hm],fun p=>under_empties ok hl cl p _ a b (le_refl _) hab hne hm⟩
theorem cap_zero {n:Int} {t:T} (F:dw n t) {e s:Int} (h:has t e s = true) (h0:(get t e s).fCa = 0):get t e s = jd:=by
 rcases F e s h with e1 | e1 | e1
 ·exact e1
 ·rw [e1.1] at h0; cases h0
 ·have:=(bI e1.2.2.2.1).1; omega
theorem put_put {t:T} {e s:Int} (c d:Cap) (h:has t e s = true):put (put t e s c) e s d = put t e s d:=by
 obtain ⟨m,n,rfl,rfl,hm,hn⟩:=has_nat h;simp [put,hm]
theorem put_self {t:T} (row:∀ r ∈ t,r.length = 8) {e s:Int} (h:has t e s = true):put t e s (get t e s) = t:=by
 obtain ⟨m,n,rfl,rfl,hm,hn⟩:=has_nat h;obtain ⟨h3,hg⟩:=get_nat' row hm hn;rw [put_nat hm,hg];simp
theorem single {l:List ba} {p:ba} (nd:l.Nodup) (h:∀ x,x ∈ l↔x = p):l = [p]:=by
 match l,nd,h with
 | [],_,h=>exact absurd ((h p).2 rfl) (by simp)
 | [a],_,h=>rw [(h a).1 (by simp)]
 | a::b::l,nd,h =>
  have e1:=(h a).1 (by simp);have e2:=(h b).1 (by simp);rw [e1,e2] at nd;simp at nd
theorem own_leaf {t:T} (ok:Ok t) {e s:Int} (h:has t e s = true) (hne:(get t e s).fCa ≠ 0) (hl:∀ a b,has t a b = true->(get t a b).fCa ≠ 0->under t (get t a b) ⟨e,s⟩ = false):own t e s = [⟨e,s⟩]:=by
 refine single (uW _ _ _) fun x=>?_;constructor
 ·intro hx;have h1:=(mem_own ok).1 hx;rcases h1.2.2 with h2 | h2
  ·exact h2
  ·rw [hl _ _ h1.1 h1.2.1] at h2; cases h2
 ·rintro rfl;exact (mem_own ok).2 ⟨h,hne,.inl rfl⟩
end fAa
end
section
open Go Mb
namespace fAa
theorem rq:∀ (l m:List ba) (t:T),fSa t (l++m) = fSa (fSa t l) m
 | [],_,_=>rfl
 | p::l,m,t=>by simp only [List.cons_append,fSa]; exact rq l m _
def fVa (t:T) (e s:Int) (w:Bool):List ba:=if w = true then below t e s++[⟨e,s⟩] else below t e s
theorem mem_goers {t:T} (ok:Ok t) {e s:Int} {w:Bool} (h:has t e s = true) (hn:(get t e s).fCa ≠ 0) {p:ba}:p ∈ fVa t e s w↔has t p.fBa p.fDa = true/\(get t p.fBa p.fDa).fCa ≠ 0/\((w = true/\p = ⟨e,s⟩)\/under t (get t p.fBa p.fDa) ⟨e,s⟩ = true):=by
 unfold fVa;cases w with
 | false =>
  rw [if_neg Bool.false_ne_true,mem_below ok];constructor
  ·exact fun ⟨a,b,c⟩=>⟨a,b,.inr c⟩
  ·rintro ⟨a,b,c | c⟩
   ·cases c.1
   ·exact ⟨a,b,c⟩
 | true =>
  rw [if_pos rfl,List.mem_append,mem_below ok,List.mem_singleton];constructor
  ·rintro (⟨a,b,c⟩ | rfl)
   ·exact ⟨a,b,.inr c⟩
   ·exact ⟨h,hn,.inl ⟨rfl,rfl⟩⟩
  ·rintro ⟨a,b,c | c⟩
   ·exact .inr c.2
   ·exact .inl ⟨a,b,c⟩
theorem goers_nd {t:T} (ok:Ok t) {e s:Int} {w:Bool} (h:has t e s = true):(fVa t e s w).Nodup:=by
 unfold fVa;split
 ·refine List.nodup_append.2 ⟨uW _ _ _,by simp,fun a ha b hb hab=>?_⟩;rw [List.mem_singleton] at hb;subst hb; subst hab;have:=((mem_below ok).1 ha).2.2;rw [not_under_self ok h] at this;cases this
 ·exact uW _ _ _
theorem goers_cl {t:T} (ok:Ok t) {e s:Int} {w:Bool} (h:has t e s = true) (hn:(get t e s).fCa ≠ 0):∀ a b,has t a b = true->(get t a b).fCa ≠ 0->0 <= (get t a b).fBa->(⟨(get t a b).fBa,(get t a b).fDa⟩:ba) ∈ fVa t e s w->(⟨a,b⟩:ba) ∈ fVa t e s w:=by
 intro a b hab hne hen hp;have h1:=(mem_goers ok h hn).1 hp;refine (mem_goers ok h hn).2 ⟨hab,hne,.inr ?_⟩;rw [under_step ok hab,if_pos ⟨hne,hen⟩];split
 ·rfl
 ·rename_i hno;rcases h1.2.2 with h2 | h2
  ·exact absurd ⟨congrArg au.fBa h2.2,congrArg au.fDa h2.2⟩ hno
  ·exact h2
theorem goers_has {t:T} (ok:Ok t) {e s:Int} {w:Bool} (h:has t e s = true) (hn:(get t e s).fCa ≠ 0):∀ p ∈ fVa t e s w,has t p.fBa p.fDa = true:=fun _ hp=>((mem_goers ok h hn).1 hp).1
theorem drop_after {t:T} (ok:Ok t) {e s:Int} (h:has t e s = true) (hn:(get t e s).fCa ≠ 0):drop (fSa t (below t e s)) e s = (([⟨e,s⟩],0),fSa t (fVa t e s true)):=by
 have ok1:=ok_below ok e s;have hl:∀ p ∈ below t e s,has t p.fBa p.fDa = true:=fun p hp=>((mem_below ok).1 hp).1;have hself:(⟨e,s⟩:ba) ∉ below t e s:=fun hm=>by
  have:=((mem_below ok).1 hm).2.2;rw [not_under_self ok h] at this; cases this
 have hg:get (fSa t (below t e s)) e s = get t e s:=by rw [empties_get _ t ok.row hl e s h,if_neg hself]
 have hh:has (fSa t (below t e s)) e s = true:=by rw [empties_has]; exact h
 have ho:own (fSa t (below t e s)) e s = [⟨e,s⟩]:=by
  refine own_leaf ok1 hh (by rw [hg]; exact hn) fun a b hab hne=>?_;rw [empties_has] at hab;rw [empties_get _ t ok.row hl a b hab] at hne ⊢;by_cases hm:(⟨a,b⟩:ba) ∈ below t e s
  ·rw [if_pos hm] at hne; exact absurd rfl hne
  ·rw [if_neg hm] at hne ⊢;rw [under_empties ok hl (below_closed ok e s) _ _ a b (le_refl _) hab hne hm];cases hu:under t (get t a b) ⟨e,s⟩ with
   | false=>rfl
   | true=>exact absurd ((mem_below ok).2 ⟨hab,hne,hu⟩) hm
 unfold drop;have hlook:look (fSa t (below t e s)) e s = 0:=by unfold look; rw [hh,hg,if_neg (by simp),if_neg hn]
 rw [if_neg (by rw [hlook]; simp),ho];unfold fVa;rw [if_pos rfl,rq]
end fAa
theorem unmaps_get {ps:List Pte} (hl:ps.length = 8):∀ (l:List Int) {ps:List Pte},ps.length = 8->∀ pg,Table.get (PK.unmaps ps l) pg = if pg ∈ l then (cc,false) else Table.get ps pg
 | [],_,_,pg=>by simp [PK.unmaps]
 | i::l,ps,hl,pg=>by
  rw [PK.unmaps,unmaps_get hl l (by rw [Table.remove_len]; exact hl) pg,Table.get_remove hl];by_cases h1:pg ∈ l
  ·rw [if_pos h1,if_pos (by simp [h1])]
  ·rw [if_neg h1];by_cases h2:pg = i
   ·rw [if_pos h2,if_pos (by simp [h2])]
   ·rw [if_neg h2,if_neg (by simp [h1,h2])]
theorem unmap_get {ps:List Pte} (hl:ps.length = 8) (s pg:Int):(Table.get (PK.unmap ps s) pg).1 = if (Table.get ps pg).1.fCa ≠ 0/\(Table.get ps pg).1.fDa = s then cc else (Table.get ps pg).1:=by
 unfold PK.unmap;rw [unmaps_get hl _ hl];by_cases h:pg ∈ Table.by_ ps s
 ·have:=(Table.mem_by hl).1 h;rw [Table.get_snd] at this;rw [if_pos h,if_pos ⟨by simpa using this.1,this.2⟩]
 ·rw [if_neg h,if_neg];rintro ⟨h1,h2⟩;exact h ((Table.mem_by hl).2 ⟨by rw [Table.get_snd]; simpa using h1,h2⟩)
namespace PK
theorem q_zero {k:PK} {e pg:Int} (h:(q k e pg).fCa = 0):q k e pg = cc:=by
 unfold q pte at h ⊢;split
 ·rfl
 ·rename_i ho;rw [if_neg ho] at h;unfold Table.get at h ⊢;split
  ·rename_i h1;rw [if_pos h1] at h;exact absurd h h1.2
  ·rfl
theorem gone_same:∀ (l:List ba) (k:PK) (f:Int),(gone k f l).caps = k.caps/\(gone k f l).s = k.s/\(gone k f l).m = k.m
 | [],_,_=>⟨rfl,rfl,rfl⟩
 | p::l,k,f=>by
  have:=gone_same l { k with tabs:=k.tabs.set p.fBa.toNat (unmap (tab k p.fBa) p.fDa),pool:=(Pool.lets k.pool f).2.2 } f;exact this
theorem gone_q:∀ (l:List ba) {k:PK} (_:PK.Ok k) (f:Int),(∀ p ∈ l,off k p.fBa = false)->∀ e pg,q (gone k f l) e pg = if (q k e pg).fCa ≠ 0/\(⟨e,(q k e pg).fDa⟩:ba) ∈ l then cc else q k e pg
 | [],k,_,_,_,e,pg=>by simp [gone]
 | p::l,k,ok,f,hl,e,pg=>by
  have hp:=hl p (by simp);have ht:=tab_in ok hp;have h1:=lets_fine ok.pr f;have h2:=ok_tabs ok p.fBa (ps:=unmap (tab k p.fBa) p.fDa) (fun h=>tab_unmaps _ (tab_ok ok _ h));have h3:PK.Ok { k with tabs:=k.tabs.set p.fBa.toNat (unmap (tab k p.fBa) p.fDa),pool:=(Pool.lets k.pool f).2.2 } :=
   ⟨h2.sz,h2.ml,h2.mr,h2.tl,h2.tr,by rw [← ok.pl]; exact congrArg Int.ofNat h1.1,h1.2,h2.cl,h2.tree,h2.fine⟩
  have hq:q { k with tabs:=k.tabs.set p.fBa.toNat (unmap (tab k p.fBa) p.fDa),pool:=(Pool.lets k.pool f).2.2 } e pg = if (q k e pg).fCa ≠ 0/\(⟨e,(q k e pg).fDa⟩:ba) = p then cc else q k e pg:=by
   have h4:q { k with tabs:=k.tabs.set p.fBa.toNat (unmap (tab k p.fBa) p.fDa),pool:=(Pool.lets k.pool f).2.2 } e pg = q { k with tabs:=k.tabs.set p.fBa.toNat (unmap (tab k p.fBa) p.fDa) } e pg:=q_same rfl rfl e pg;rw [h4,q_tabs ok hp];by_cases he:e = p.fBa
   ·subst he;rw [if_pos rfl,unmap_get ht.2,← q_get hp];by_cases hs:(q k p.fBa pg).fCa ≠ 0/\(q k p.fBa pg).fDa = p.fDa
    ·rw [if_pos hs,if_pos ⟨hs.1,by rw [hs.2]⟩]
    ·rw [if_neg hs,if_neg];rintro ⟨a,b⟩;exact hs ⟨a,congrArg au.fDa b⟩
   ·rw [if_neg he,if_neg];rintro ⟨_,b⟩;exact he (congrArg au.fBa b)
  have ih:=gone_q l h3 f (fun x hx=>hl x (by simp [hx])) e pg;show q (gone _ f l) e pg = _;rw [ih,hq];by_cases c1:(q k e pg).fCa ≠ 0/\(⟨e,(q k e pg).fDa⟩:ba) = p
  ·rw [if_pos c1,if_neg (fun h=>h.1 rfl),if_pos ⟨c1.1,by rw [c1.2]; simp⟩]
  ·rw [if_neg c1];by_cases c2:(q k e pg).fCa ≠ 0/\(⟨e,(q k e pg).fDa⟩:ba) ∈ l
   ·rw [if_pos c2,if_pos ⟨c2.1,by simp [c2.2]⟩]
   ·rw [if_neg c2,if_neg];rintro ⟨a,b⟩;rcases List.mem_cons.1 b with b | b
    ·exact c1 ⟨a,b⟩
    ·exact c2 ⟨a,b⟩
theorem refs_nn {p:List Int} {g:Int} (hg:0 <= g):Pool.refs p g = (p[g.toNat]?).getD 0:=by unfold Pool.refs; rw [if_neg (show ¬ g < 0 by omega),getD_eq_getElem?_getD]
theorem refs_set {p:List Int} {i:Int} (h0:0 <= i) (h1:i < p.length) (v g:Int) (hg:0 <= g):Pool.refs (p.set i.toNat v) g = if g = i then v else Pool.refs p g:=by
 rw [refs_nn hg,refs_nn hg,List.getElem?_set];by_cases e:g = i
 ·subst e;rw [if_pos rfl,if_pos rfl,if_pos (show g.toNat < p.length by omega)]; rfl
 ·rw [if_neg (show ¬ i.toNat = g.toNat by omega),if_neg e]
theorem refs_in {p:List Int} {i:Int} (h:Pool.refs p i ≠ 0):0 <= i/\i < p.length:=by
 unfold Pool.refs at h;split at h
 ·exact absurd rfl h
 ·refine ⟨by omega,?_⟩;by_cases hi:i.toNat < p.length
  ·omega
  ·simp [getD_eq_getElem?_getD,List.getElem?_eq_none (Nat.le_of_not_lt hi)] at h
theorem gone_pool:∀ (l:List ba) {k:PK} (f:Int),(∀ n ∈ k.pool,0 <= n/\n <= 7)->(l.length:Int) <= Pool.refs k.pool f->∀ g,0 <= g->Pool.refs (gone k f l).pool g = if g = f then Pool.refs k.pool f - l.length else Pool.refs k.pool g
 | [],k,f,_,_,g,_=>by simp only [gone,List.length_nil]; split <;> simp_all
 | p::l,k,f,hk,hl,g,hg=>by
  simp only [List.length_cons] at hl ⊢;have hr:=refs_fine hk f;have hne:Pool.refs k.pool f ≠ 0:=by omega
  have hin:=refs_in hne;have hlets:(Pool.lets k.pool f).2.2 = k.pool.set f.toNat (Pool.refs k.pool f - 1):=by
   unfold Pool.lets; rw [if_neg hne];show k.pool.set f.toNat (i64.wrap (Pool.refs k.pool f - 1)) = _;rw [wrapR (by omega) (by omega)]
  have h2:Pool.refs (Pool.lets k.pool f).2.2 f = Pool.refs k.pool f - 1:=by rw [hlets,refs_set hin.1 hin.2 _ _ hin.1,if_pos rfl]
  have ih:=gone_pool l (k:={ k with tabs:=k.tabs.set p.fBa.toNat (unmap (tab k p.fBa) p.fDa),pool:=(Pool.lets k.pool f).2.2 }) f (lets_fine hk f).2 (by show (l.length:Int) <= Pool.refs (Pool.lets k.pool f).2.2 f; rw [h2]; omega) g hg;show Pool.refs (gone _ f l).pool g = _;rw [ih];by_cases e:g = f
  ·rw [if_pos e,if_pos e];show Pool.refs (Pool.lets k.pool f).2.2 f - _ = _;rw [h2]; omega
  ·rw [if_neg e,if_neg e];show Pool.refs (Pool.lets k.pool f).2.2 g = _;rw [hlets,refs_set hin.1 hin.2 _ _ hg,if_neg e]
end PK
end
section
open Go Mb
theorem idx_spec (a:Int):∀ (xs:List Int) (i:Int),(cn a xs i = -1/\a ∉ xs)\/∃ n:Nat,cn a xs i = i + n/\xs[n]? = some a/\∀ m,m < n->xs[m]? ≠ some a
 | [],_=>.inl ⟨rfl,by simp⟩
 | x::xs,i=>by
  unfold cn;split
  ·rename_i h; subst h;exact .inr ⟨0,by simp,rfl,fun m hm=>by omega⟩
  ·rename_i h;rcases idx_spec a xs (i + 1) with ⟨h1,h2⟩ | ⟨n,h1,h2,h3⟩
   ·exact .inl ⟨h1,by simp [h,h2]⟩
   ·refine .inr ⟨n + 1,by rw [h1]; omega,h2,fun m hm=>?_⟩;cases m with
    | zero=>simp; exact fun e=>h e.symm
    | succ m=>exact h3 m (by omega)
namespace fAa
theorem under_empty {t:T} (ok:Ok t) {p:ba} (h0:(get t p.fBa p.fDa).fCa = 0):∀ (n:Nat) (a b:Int),deep 40 t (get t a b) <= n->has t a b = true->under t (get t a b) p = false:=by
 intro n
 induction n with
 | zero =>
  intro a b hd hab;rw [under_step ok hab];by_cases hen:(get t a b).fCa ≠ 0/\0 <= (get t a b).fBa
  ·have:=deep_step ok hab hen; omega
  ·rw [if_neg hen]
 | succ n ih =>
  intro a b hd hab;rw [under_step ok hab];by_cases hen:(get t a b).fCa ≠ 0/\0 <= (get t a b).fBa
  ·have hd2:=deep_step ok hab hen;obtain ⟨p1,p2⟩:=parent_has ok hab hen.1 hen.2;rw [if_pos hen,if_neg,ih _ _ (by omega) p1];rintro ⟨e1,e2⟩;rw [e1,e2] at p2; exact p2 h0
  ·rw [if_neg hen]
theorem cnt_put0 (f:Int) {t:T} (row:∀ r ∈ t,r.length = 8) {e s:Int} (h:has t e s = true) (h0:(get t e s).fCa = 0) {c:Cap} (hc:c.fCa ≠ 0):cnt f (put t e s c) = cnt f t + (if c.fEa = f then 1 else 0):=by
 have h1:=cnt_put f row h c;have h2:b2n (isF f (get t e s)) = 0:=by unfold b2n isF; simp [h0]
 have h3:b2n (isF f c) = if c.fEa = f then 1 else 0:=by unfold b2n isF; by_cases e:c.fEa = f <;> simp [hc,e]
 omega
end fAa
namespace PK
structure Mv (k k':PK):Prop where
 fine:Fine k'
 s:k'.s = k.s
 keep:∀ e pg,(q k e pg).fCa ≠ 0->(q k' e pg).fCa ≠ 0->fAa.Keep k.caps k'.caps e (q k e pg).fDa
def Mono (k k':PK):Prop:=∀ e pg,(q k e pg).fCa ≠ 0->q k' e pg = q k e pg
theorem Mv.refl {k:PK} (F:Fine k):Mv k k:=⟨F,rfl,fun _ _ _ _=>fAa.Keep.refl _ _ _⟩
theorem Mono.refl (k:PK):Mono k k:=fun _ _ _=>rfl
theorem has_iff {k:PK} (ok:PK.Ok k) {e s:Int}:fAa.has k.caps e s = true↔off k e = false/\0 <= s/\s < 8:=by
 have:=ok.cl;rw [off_iff];unfold fAa.has;constructor
 ·intro h; have:=of_decide_eq_true h; omega
 ·intro h; exact decide_eq_true (by omega)
theorem fine_frame {n:Int} {t:fAa.T} (F:dw n t) {e s:Int} (h:fAa.has t e s = true) (hr:(fAa.get t e s).fCa ≠ 0):0 <= (fAa.get t e s).fEa/\(fAa.get t e s).fEa < n:=by
 rcases F e s h with e1 | e1 | e1
 ·rw [e1] at hr; exact absurd rfl hr
 ·exact ⟨e1.2.2.2.1,e1.2.2.2.2⟩
 ·exact ⟨e1.2.1,e1.2.2.1⟩
theorem mv_put {k k':PK} (F:Fine k) (ok':PK.Ok k') {e s:Int} {c:Cap} (hs:k'.s = k.s) (ht:k'.tabs = k.tabs) (hh:fAa.has k.caps e s = true) (h0:(fAa.get k.caps e s).fCa = 0) (hc:0 <= c.fBa->fAa.has k.caps c.fBa c.fDa = true/\(fAa.get k.caps c.fBa c.fDa).fCa ≠ 0)
  (hcaps:k'.caps = fAa.put k.caps e s c) (num:∀ f:Int,0 <= f->f < k'.s.fUa->Pool.refs k'.pool f = fAa.cnt f k'.caps):Mv k k'/\Mono k k':=by
 have qs:=q_same ht hs;have kp:∀ a b,fAa.has k.caps a b = true->(fAa.get k.caps a b).fCa ≠ 0->fAa.Keep k.caps k'.caps a b:=fun a b h1 h2=>by rw [hcaps]; exact fAa.keep_put F.ok.tree hh h0 hc h1 h2
 refine ⟨⟨⟨ok',fun a pg hq=>?_,num⟩,hs,fun a pg hq _=>?_⟩,fun a pg _=>qs a pg⟩
 ·rw [qs] at hq ⊢;obtain ⟨h1,h2,h3⟩:=F.by_ a pg hq;have hn:(fAa.get k.caps a (q k a pg).fDa).fCa ≠ 0:=by have:=(bI h3).2; omega
  have:=(kp a _ h1 hn).g;rw [this];exact ⟨by rw [hcaps,fAa.put_has]; exact h1,h2,h3⟩
 ·obtain ⟨h1,h2,h3⟩:=F.by_ a pg hq;exact kp a _ h1 (by have:=(bI h3).2; omega)
theorem at_snd (t:fAa.T) (e s:Int):(fAa.at_ t e s).2 = true↔fAa.has t e s = true/\(fAa.get t e s).fCa ≠ 0:=by
 unfold fAa.at_; split <;> simp_all
theorem at_of {t:fAa.T} {e s:Int} (h:fAa.has t e s = true) (hr:(fAa.get t e s).fCa ≠ 0):fAa.at_ t e s = (fAa.get t e s,true):=by unfold fAa.at_; rw [if_pos ⟨h,hr⟩]
theorem mv_alloc {k:PK} (F:Fine k) {e s:Int} (hh:fAa.has k.caps e s = true):Mv k (alloc k e s).2/\Mono k (alloc k e s).2:=by
 have oka:=ok_alloc F.ok e s;unfold alloc at oka ⊢;split
 ·exact ⟨.refl F,.refl k⟩
 ·rename_i h1;rw [if_neg h1] at oka;split
  ·exact ⟨.refl F,.refl k⟩
  ·rename_i h2;rw [if_neg h2] at oka;have h0:(fAa.get k.caps e s).fCa = 0:=by
    cases Decidable.em ((fAa.get k.caps e s).fCa = 0) with
    | inl h=>exact h
    | inr h=>exact absurd ((at_snd _ _ _).2 ⟨hh,h⟩) h1
   have ht:=take_in (by simpa using h2);have hsz:=cQ.1 F.ok.sz;have hpl:=F.ok.pl;have hroot:fAa.root k.caps e s (Pool.take k.pool).1 = (0,fAa.put k.caps e s ⟨(Pool.take k.pool).1,3,-1,0⟩):=by
    unfold fAa.root;rw [if_neg (by rw [hh]; simp; omega),if_neg (by simp [h0])]
   rw [hroot] at oka ⊢;refine mv_put F oka rfl rfl hh h0 (fun h=>absurd h (by show ¬ (0:Int) <= -1; omega)) rfl fun f f0 f1=>?_;rcases idx_spec 0 k.pool 0 with ⟨i1,_⟩ | ⟨n,i1,i2,_⟩
   ·exfalso; apply h2; unfold Pool.take; rw [if_pos (by rw [i1]; decide)]
   ·have htk:Pool.take k.pool = ((n:Int),true,k.pool.set n 1):=by
     unfold Pool.take; rw [if_neg (by rw [i1]; omega),i1]; simp
    rw [htk];have hn:=(List.getElem?_eq_some_iff.1 i2).1;show Pool.refs (k.pool.set n 1) f = (fAa.cnt f (fAa.put k.caps e s ⟨(n:Int),3,-1,0⟩):Int)
    rw [fAa.cnt_put0 f F.ok.tree.row hh h0 (show (3:Int) ≠ 0 by decide)];have:=refs_set (p:=k.pool) (i:=(n:Int)) (by omega) (by omega) 1 f f0;rw [toNat_natCast] at this;rw [this];have hnum:=F.num f f0 f1;by_cases e1:f = n
    ·subst e1;rw [if_pos rfl,if_pos rfl];rw [refs_nn (by omega),toNat_natCast,i2] at hnum;simp at hnum;omega
    ·rw [if_neg e1,if_neg (by simp; omega),hnum]; simp
theorem mv_derive {k:PK} (F:Fine k) {e src to dst r:Int} (h1:fAa.has k.caps e src = true) (h2:fAa.has k.caps to dst = true):Mv k (derive k e src to dst r).2/\Mono k (derive k e src to dst r).2:=by
 have oka:=ok_derive F.ok e src to dst r;unfold derive at oka ⊢;split
 ·exact ⟨.refl F,.refl k⟩
 ·rename_i h0;rw [if_neg h0] at oka;have hd:aS r = true/\(fAa.get k.caps e src).fCa ≠ 0/\(fAa.get k.caps to dst).fCa = 0/\fAa.derive k.caps e src to dst r = (0,fAa.put k.caps to dst ⟨(fAa.get k.caps e src).fEa,r,e,src⟩):=by
   unfold fAa.derive at h0 ⊢;split at h0
   ·exact absurd (by simp) h0
   ·rename_i c1;rw [if_neg c1];split at h0
    ·exact absurd (by simp) h0
    ·rename_i c2;rw [if_neg c2];split at h0
     ·exact absurd (by simp) h0
     ·rename_i c3;rw [if_neg c3];split at h0
      ·exact absurd (by simp) h0
      ·rename_i c4;rw [if_neg c4];simp only [not_or,Bool.not_eq_false] at c1;exact ⟨c1.2.2,c2,by simpa using c3,rfl⟩
  obtain ⟨hm,hsr,hds,he⟩:=hd;have hr0:r ≠ 0:=by have:=oM.1 hm; omega
  have hev:0 <= e:=((has_iff F.ok).1 h1).1 |> fun h=>(off_iff.1 h).1;rw [he] at oka ⊢;have hpg:fAa.get (fAa.put k.caps to dst ⟨(fAa.get k.caps e src).fEa,r,e,src⟩) to dst = ⟨(fAa.get k.caps e src).fEa,r,e,src⟩:=by rw [fAa.get_put F.ok.tree.row h2 h2,if_pos ⟨rfl,rfl⟩]
  have hat:fAa.at_ (fAa.put k.caps to dst ⟨(fAa.get k.caps e src).fEa,r,e,src⟩) to dst = (⟨(fAa.get k.caps e src).fEa,r,e,src⟩,true):=by
   rw [at_of (by rw [fAa.put_has]; exact h2) (by rw [hpg]; exact hr0),hpg]
  have hc:0 <= e->fAa.has k.caps e src = true/\(fAa.get k.caps e src).fCa ≠ 0:=fun _=>⟨h1,hsr⟩
  have hfr:=fine_frame F.ok.fine h1 hsr;have hpos:=fAa.cnt_pos F.ok.tree.row h1 hsr rfl;have hnum:=F.num _ hfr.1 hfr.2;simp only [hat] at oka ⊢;split
  ·rename_i h3;have okp:=fAa.ok_put F.ok.tree h2 hds ⟨(fAa.get k.caps e src).fEa,r,e,src⟩ hc;have hleaf:fAa.drop (fAa.put k.caps to dst ⟨(fAa.get k.caps e src).fEa,r,e,src⟩) to dst = (([⟨to,dst⟩],0),k.caps):=by
    have ho:fAa.own (fAa.put k.caps to dst ⟨(fAa.get k.caps e src).fEa,r,e,src⟩) to dst = [⟨to,dst⟩]:=by
     refine fAa.own_leaf okp (by rw [fAa.put_has]; exact h2) (by rw [hpg]; exact hr0) fun a b hab hne=>?_;rw [fAa.put_has] at hab;by_cases hs:a = to/\b = dst
     ·obtain ⟨rfl,rfl⟩:=hs;exact fAa.not_under_self okp (by rw [fAa.put_has]; exact h2)
     ·have hg:fAa.get (fAa.put k.caps to dst ⟨(fAa.get k.caps e src).fEa,r,e,src⟩) a b = fAa.get k.caps a b:=by rw [fAa.get_put F.ok.tree.row h2 hab,if_neg hs]
      rw [hg] at hne ⊢;rw [fAa.under_put F.ok.tree h2 hds hc _ _ a b (le_refl _) hab hne];exact fAa.under_empty F.ok.tree (p:=⟨to,dst⟩) hds _ a b (le_refl _) hab
    have hlook:fAa.look (fAa.put k.caps to dst ⟨(fAa.get k.caps e src).fEa,r,e,src⟩) to dst = 0:=by
     unfold fAa.look; rw [if_neg (by rw [fAa.put_has,h2]; simp),if_neg (by rw [hpg]; exact hr0)]
    unfold fAa.drop;rw [if_neg (by rw [hlook]; simp),ho];show ((_,_),fAa.put (fAa.put k.caps to dst _) to dst jd) = _;rw [fAa.put_put _ _ h2,← fAa.cap_zero F.ok.fine h2 hds,fAa.put_self F.ok.tree.row h2]
   rw [hleaf];exact ⟨.refl F,.refl k⟩
  ·rename_i h3;rw [if_neg h3] at oka;refine mv_put F oka rfl rfl h2 hds hc rfl fun f f0 f1=>?_;have hh:Pool.hold k.pool (fAa.get k.caps e src).fEa = (true,k.pool.set (fAa.get k.caps e src).fEa.toNat (Pool.refs k.pool (fAa.get k.caps e src).fEa + 1)):=by
    unfold Pool.hold at h3 ⊢;split at h3
    ·exact absurd rfl h3
    ·rename_i c1;have hrf:=refs_fine F.ok.pr (fAa.get k.caps e src).fEa;rw [if_neg c1,wrapR (by omega) (by omega)]
   rw [hh];show Pool.refs (k.pool.set _ _) f = (fAa.cnt f (fAa.put k.caps to dst _):Int)
   rw [fAa.cnt_put0 f F.ok.tree.row h2 hds (show r ≠ 0 from hr0)];have hpl:=F.ok.pl;rw [refs_set hfr.1 (by omega) _ f f0];have hnf:=F.num f f0 f1;by_cases e1:f = (fAa.get k.caps e src).fEa
   ·rw [if_pos e1,if_pos e1.symm,← e1,hnf]; simp
   ·rw [if_neg e1,if_neg (fun h=>e1 h.symm),hnf]; simp
end PK
end
section
open Go Mb
namespace PK
theorem goers_frame {k:PK} (F:Fine k) {e s:Int} {w:Bool} (h:fAa.has k.caps e s = true) (hn:(fAa.get k.caps e s).fCa ≠ 0) {p:ba} (hp:p ∈ fAa.fVa k.caps e s w):(fAa.get k.caps p.fBa p.fDa).fEa = (fAa.get k.caps e s).fEa:=by
 obtain ⟨h1,h2,h3⟩:=(fAa.mem_goers F.ok.tree h hn).1 hp;rcases h3 with ⟨_,rfl⟩ | h3
 ·rfl
 ·exact fAa.under_frame F.ok.tree F.ok.fine _ _ _ (le_refl _) h1 _ h3
theorem revoke_eq {k:PK} (F:Fine k) {e s:Int} {w:Bool} (h:fAa.has k.caps e s = true) (hn:(fAa.get k.caps e s).fCa ≠ 0) :
  revoke k e s w = (⟨0,u64.wrap (fAa.fVa k.caps e s w).length⟩,gone { k with caps:=fAa.fSa k.caps (fAa.fVa k.caps e s w) } (fAa.get k.caps e s).fEa (fAa.fVa k.caps e s w)):=by
 have hlook:fAa.look k.caps e s = 0:=by unfold fAa.look; rw [if_neg (by rw [h]; simp),if_neg hn]
 have hrv:fAa.revoke k.caps e s = ((fAa.below k.caps e s,0),fAa.fSa k.caps (fAa.below k.caps e s)):=by unfold fAa.revoke; rw [if_neg (by rw [hlook]; simp)]
 unfold revoke;rw [hrv,if_neg (by simp),at_of h hn];cases w with
 | true =>
  rw [if_pos rfl];simp only [fAa.drop_after F.ok.tree h hn];unfold fAa.fVa;rw [if_pos rfl]
 | false =>
  rw [if_neg Bool.false_ne_true];unfold fAa.fVa;rw [if_neg Bool.false_ne_true]
theorem revoke_no {k:PK} {e s:Int} {w:Bool} (h:fAa.has k.caps e s = true) (hn:(fAa.get k.caps e s).fCa = 0):revoke k e s w = (⟨3,0⟩,k):=by
 have hlook:fAa.look k.caps e s = 3:=by unfold fAa.look; rw [if_neg (by rw [h]; simp),if_pos hn]
 have hrv:fAa.revoke k.caps e s = (([],3),k.caps):=by unfold fAa.revoke; rw [if_pos (by rw [hlook]; simp),hlook]
 unfold revoke;rw [hrv,if_pos (by simp)]
theorem revoke_q {k:PK} (F:Fine k) {e s:Int} {w:Bool} (h:fAa.has k.caps e s = true) (hn:(fAa.get k.caps e s).fCa ≠ 0) (a pg:Int) :
  q (revoke k e s w).2 a pg = if (q k a pg).fCa ≠ 0/\(⟨a,(q k a pg).fDa⟩:ba) ∈ fAa.fVa k.caps e s w then cc else q k a pg:=by
 rw [revoke_eq F h hn];have ok1:=ok_caps F.ok (t:=fAa.fSa k.caps (fAa.fVa k.caps e s w)) (fAa.empties_len _ _) (fAa.ok_empties F.ok.tree (fAa.goers_has F.ok.tree h hn) (fAa.goers_cl F.ok.tree h hn)) (fAa.fine_empties F.ok.tree F.ok.fine (fAa.goers_has F.ok.tree h hn) (fAa.goers_cl F.ok.tree h hn));exact gone_q _ ok1 _ (fun p hp=>((has_iff F.ok).1 (fAa.goers_has F.ok.tree h hn p hp)).1) a pg
theorem mv_revoke {k:PK} (F:Fine k) {e s:Int} {w:Bool} (h:fAa.has k.caps e s = true):Mv k (revoke k e s w).2:=by
 by_cases hn:(fAa.get k.caps e s).fCa = 0
 ·rw [revoke_no h hn]; exact .refl F
 have okr:=ok_revoke F.ok e s w;have hq:=revoke_q F (w:=w) h hn;rw [revoke_eq F h hn] at okr hq ⊢;have hgs:=gone_same (fAa.fVa k.caps e s w) { k with caps:=fAa.fSa k.caps (fAa.fVa k.caps e s w) } (fAa.get k.caps e s).fEa;have hcl:=fAa.goers_cl F.ok.tree (w:=w) h hn;have hhas:=fAa.goers_has F.ok.tree (w:=w) h hn;have hcaps:(gone { k with caps:=fAa.fSa k.caps (fAa.fVa k.caps e s w) } (fAa.get k.caps e s).fEa (fAa.fVa k.caps e s w)).caps = fAa.fSa k.caps (fAa.fVa k.caps e s w):=hgs.1;have hss:(gone { k with caps:=fAa.fSa k.caps (fAa.fVa k.caps e s w) } (fAa.get k.caps e s).fEa (fAa.fVa k.caps e s w)).s = k.s:=hgs.2.1;have keep:∀ a pg,(q k a pg).fCa ≠ 0->(⟨a,(q k a pg).fDa⟩:ba) ∉ fAa.fVa k.caps e s w->fAa.Keep k.caps (fAa.fSa k.caps (fAa.fVa k.caps e s w)) a (q k a pg).fDa:=fun a pg h1 h2=>by
  obtain ⟨b1,b2,b3⟩:=F.by_ a pg h1;exact fAa.keep_empties F.ok.tree hhas hcl b1 (by have:=(bI b3).2; omega) h2
 refine ⟨⟨okr,fun a pg hne=>?_,fun f f0 f1=>?_⟩,hss,fun a pg h1 h2=>?_⟩
 ·simp only at hne ⊢;rw [hcaps];have hq':q (gone { k with caps:=fAa.fSa k.caps (fAa.fVa k.caps e s w) } (fAa.get k.caps e s).fEa (fAa.fVa k.caps e s w)) a pg = _:=hq a pg;rw [hq'] at hne ⊢;split at hne
  ·exact absurd rfl hne
  ·rename_i hc;rw [if_neg hc];obtain ⟨b1,b2,b3⟩:=F.by_ a pg hne;have:=(keep a pg hne (fun hm=>hc ⟨hne,hm⟩)).g;rw [this];exact ⟨by rw [fAa.empties_has]; exact b1,b2,b3⟩
 ·simp only at f1 ⊢;rw [hss] at f1;rw [hcaps];have hfr:=fine_frame F.ok.fine h hn;have hcnt:=fAa.cnt_empties f (fAa.fVa k.caps e s w) F.ok.tree.row (fAa.goers_nd F.ok.tree h) (fun p hp=>⟨hhas p hp,((fAa.mem_goers F.ok.tree h hn).1 hp).2.1⟩);have hcnt0:=fAa.cnt_empties (fAa.get k.caps e s).fEa (fAa.fVa k.caps e s w) F.ok.tree.row (fAa.goers_nd F.ok.tree h) (fun p hp=>⟨hhas p hp,((fAa.mem_goers F.ok.tree h hn).1 hp).2.1⟩);have hall:(fAa.fVa k.caps e s w).countP (fun p=>decide ((fAa.get k.caps p.fBa p.fDa).fEa = (fAa.get k.caps e s).fEa)) = (fAa.fVa k.caps e s w).length:=by
   rw [List.countP_eq_length];intro p hp;simp [goers_frame F h hn hp]
  rw [hall] at hcnt0;have hnum0:=F.num _ hfr.1 hfr.2;have hp:=gone_pool (fAa.fVa k.caps e s w) (k:={ k with caps:=fAa.fSa k.caps (fAa.fVa k.caps e s w) }) (fAa.get k.caps e s).fEa F.ok.pr (by show _ <= Pool.refs k.pool _; rw [hnum0]; omega) f f0;rw [hp];by_cases e1:f = (fAa.get k.caps e s).fEa
  ·rw [if_pos e1];subst e1;show Pool.refs k.pool _ - _ = _;rw [hnum0]; omega
  ·rw [if_neg e1];have hz:(fAa.fVa k.caps e s w).countP (fun p=>decide ((fAa.get k.caps p.fBa p.fDa).fEa = f)) = 0:=by
    rw [List.countP_eq_zero];intro p hp;rw [goers_frame F h hn hp];simp; exact fun h=>e1 h.symm
   rw [hz] at hcnt;show Pool.refs k.pool f = _;rw [F.num f f0 f1]; omega
 ·simp only at h2 ⊢;rw [hcaps];have hq':q (gone { k with caps:=fAa.fSa k.caps (fAa.fVa k.caps e s w) } (fAa.get k.caps e s).fEa (fAa.fVa k.caps e s w)) a pg = _:=hq a pg;rw [hq'] at h2;split at h2
  ·exact absurd rfl h2
  ·rename_i hc;exact keep a pg h1 (fun hm=>hc ⟨h1,hm⟩)
theorem mv_tabs {k k':PK} (F:Fine k) (ok':PK.Ok k') (hs:k'.s = k.s) (hc:k'.caps = k.caps) (hp:k'.pool = k.pool) (h:∀ a pg,(q k' a pg).fCa ≠ 0->fAa.has k.caps a (q k' a pg).fDa = true/\(fAa.get k.caps a (q k' a pg).fDa).fEa = (q k' a pg).fEa/\ap (q k' a pg).fCa (fAa.get k.caps a (q k' a pg).fDa).fCa = true):Mv k k' :=
 ⟨⟨ok',fun a pg hne=>by rw [hc]; exact h a pg hne,fun f f0 f1=>by rw [hc,hp]; exact F.num f f0 (by rw [← hs]; exact f1)⟩,hs,fun a pg _ _=>by rw [hc]; exact fAa.Keep.refl _ _ _⟩
theorem mv_maps {k:PK} (F:Fine k) {e pg s r:Int} (he:off k e = false) (h:fAa.has k.caps e s = true):Mv k (maps k e pg s r).2/\Mono k (maps k e pg s r).2:=by
 have okm:=ok_maps F.ok e pg s r;unfold maps at okm ⊢;split
 ·exact ⟨.refl F,.refl k⟩
 ·rename_i h1;rw [if_neg h1] at okm;split
  ·exact ⟨.refl F,.refl k⟩
  ·rename_i h2;rw [if_neg h2] at okm;split
   ·exact ⟨.refl F,.refl k⟩
   ·rename_i h3;rw [if_neg h3] at okm;have hc:(fAa.get k.caps e s).fCa ≠ 0:=((at_snd _ _ _).1 (by simpa using h1)).2;rw [at_of h hc] at okm h3 ⊢;have hl:=(tab_in F.ok he).2;have hg0:(Table.get (tab k e) pg).2 = false:=by simpa using h2
    have key:∀ a p,q { k with tabs:=k.tabs.set e.toNat (Table.insert (tab k e) pg ⟨(fAa.get k.caps e s).fEa,s,r⟩).2 } a p = q k a p\/((a = e/\p = pg)/\q { k with tabs:=k.tabs.set e.toNat (Table.insert (tab k e) pg ⟨(fAa.get k.caps e s).fEa,s,r⟩).2 } a p = ⟨(fAa.get k.caps e s).fEa,s,r⟩):=by
     intro a p;rw [q_tabs F.ok he];by_cases ha:a = e
     ·subst ha;rw [if_pos rfl];by_cases hz:(Table.insert (tab k a) pg ⟨(fAa.get k.caps a s).fEa,s,r⟩).1 = 0
      ·rw [Table.get_insert hl _ _ hz];by_cases hp:p = pg
       ·subst hp;rw [if_pos rfl];exact .inr ⟨⟨rfl,rfl⟩,rfl⟩
       ·rw [if_neg hp,q_get he]; exact .inl rfl
      ·rw [Table.insert_same _ _ hz,q_get he]; exact .inl rfl
     ·rw [if_neg ha]; exact .inl rfl
    refine ⟨mv_tabs F okm rfl rfl rfl fun a p hne=>?_,fun a p hne=>?_⟩
    ·simp only at hne ⊢;rcases key a p with e1 | ⟨⟨rfl,rfl⟩,e1⟩
     ·rw [e1] at hne ⊢; exact F.by_ a p hne
     ·rw [e1];exact ⟨h,rfl,by simpa using h3⟩
    ·simp only;rcases key a p with e1 | ⟨⟨rfl,rfl⟩,e1⟩
     ·exact e1
     ·exfalso
      rw [q_get he] at hne;rw [Table.get_snd] at hg0;exact hne (by simpa using hg0)
theorem remove_q {k:PK} (ok:PK.Ok k) {e pg:Int} (he:off k e = false) (a p:Int):q (remove k e pg).2 a p = if e = a/\pg = p then cc else q k a p:=by
 unfold remove;show q { k with tabs:=k.tabs.set e.toNat (Table.remove (tab k e) pg).2 } a p = _;rw [q_tabs ok he];by_cases ha:a = e
 ·subst ha;rw [if_pos rfl,Table.get_remove (tab_in ok he).2];by_cases hp:p = pg
  ·subst hp; rw [if_pos rfl,if_pos ⟨rfl,rfl⟩]
  ·rw [if_neg hp,if_neg (fun h=>hp h.2.symm),q_get he]
 ·rw [if_neg ha,if_neg (fun h=>ha h.1.symm)]
theorem mv_remove {k:PK} (F:Fine k) {e pg:Int} (he:off k e = false):Mv k (remove k e pg).2:=by
 refine mv_tabs F (ok_remove F.ok e pg) rfl rfl rfl fun a p hne=>?_;rw [remove_q F.ok he] at hne ⊢;split at hne
 ·exact absurd rfl hne
 ·rename_i hc; rw [if_neg hc]; exact F.by_ a p hne
def mayP (k:PK) (e pg r:Int):Prop:=(q k e pg).fCa ≠ 0/\ap r (fAa.get k.caps e (q k e pg).fDa).fCa = true
instance (k:PK) (e pg r:Int):Decidable (mayP k e pg r):=by unfold mayP; infer_instance
theorem protect_q {k:PK} (F:Fine k) {e pg r:Int} (he:off k e = false) (a p:Int):q (protect k e pg r).2 a p = if (e = a/\pg = p)/\mayP k e pg r then { q k a p with fCa:=r } else q k a p:=by
 unfold protect;by_cases h1:(Table.get (tab k e) pg).2 = false
 ·rw [if_pos h1,if_neg];rintro ⟨_,h2,_⟩;rw [q_get he] at h2;rw [Table.get_snd] at h1;exact h2 (by simpa using h1)
 ·rw [if_neg h1];have h1':(Table.get (tab k e) pg).2 = true:=by simpa using h1
  have hq:(q k e pg).fCa ≠ 0:=by rw [q_get he]; rw [Table.get_snd] at h1'; simpa using h1'
  have hb:=F.by_ e pg hq;rw [q_get he] at hb;have hat:=at_of hb.1 (by have:=(bI hb.2.2).2; omega);rw [hat];by_cases h2:ap r (fAa.get k.caps e (Table.get (tab k e) pg).1.fDa).fCa = false
  ·rw [if_pos h2,if_neg];rintro ⟨_,_,h3⟩;rw [q_get he,h2] at h3; cases h3
  ·rw [if_neg h2];have h2':ap r (fAa.get k.caps e (Table.get (tab k e) pg).1.fDa).fCa = true:=by simpa using h2
   show q { k with tabs:=k.tabs.set e.toNat (Table.protect (tab k e) pg r).2 } a p = _;have hm:mayP k e pg r:=⟨hq,by rw [q_get he]; exact h2'⟩
   have hr:aS r = true:=by have:=(bI h2').1; exact oM.2 this
   rw [q_tabs F.ok he];by_cases ha:a = e
   ·subst ha;rw [if_pos rfl,Table.get_protect (tab_in F.ok he).2 _ _ _ h1' hr];by_cases hp:p = pg
    ·subst hp; rw [if_pos rfl,if_pos ⟨⟨rfl,rfl⟩,hm⟩,q_get he]
    ·rw [if_neg hp,if_neg (fun h=>hp h.1.2.symm),q_get he]
   ·rw [if_neg ha,if_neg (fun h=>ha h.1.1.symm)]
theorem mv_protect {k:PK} (F:Fine k) {e pg r:Int} (he:off k e = false):Mv k (protect k e pg r).2:=by
 have hcp:(protect k e pg r).2.caps = k.caps/\(protect k e pg r).2.s = k.s/\(protect k e pg r).2.pool = k.pool:=by
  unfold protect;split
  ·exact ⟨rfl,rfl,rfl⟩
  ·split <;> exact ⟨rfl,rfl,rfl⟩
 refine mv_tabs F (ok_protect F.ok e pg r) hcp.2.1 hcp.1 hcp.2.2 fun a p hne=>?_;rw [protect_q F he] at hne ⊢;split at hne
 ·rename_i hc;obtain ⟨⟨rfl,rfl⟩,h1,h2⟩:=hc;rw [if_pos ⟨⟨rfl,rfl⟩,h1,h2⟩];have hb:=F.by_ e pg h1;exact ⟨hb.1,hb.2.1,h2⟩
 ·rename_i hc; rw [if_neg hc]; exact F.by_ a p hne
theorem mv_touch {k:PK} (F:Fine k) (f:Int) (c:bv):Mv k (touch k f c).2/\Mono k (touch k f c).2:=by
 have h:=touch_same k f c;have qs:=q_same h.2.1 h.2.2.2;exact ⟨⟨fine_touch F f c,h.2.2.2,fun a pg _ _=>by rw [h.1]; exact fAa.Keep.refl _ _ _⟩,fun a pg _=>qs a pg⟩
theorem mv_user {k:PK} (F:Fine k) (e:Int) (c:bv):Mv k (user k e c).2/\Mono k (user k e c).2:=by
 unfold user;split
 ·exact ⟨.refl F,.refl k⟩
 ·exact mv_touch F _ _
end PK
end
section
open Go Mb
def Tk (c:bv):Prop:=c.e0 = 4\/c.e0 = 5\/c.e0 = 7\/c.e0 = 8
instance (c:bv):Decidable (Tk c):=by unfold Tk; infer_instance
namespace PK
def gz (k:PK) (e:Int) (c:bv) (a s:Int):Bool :=
 if c.e0 = 5/\a = e/\s = c.e1 then true else if fAa.has k.caps a s = true then fAa.under k.caps (fAa.get k.caps a s) ⟨e,c.e1⟩ else false
def aft (k:PK) (e:Int) (c:bv) (a pg:Int):Pte :=
 if c.e0 = 7 then (if e = a/\c.e1 = pg then cc else q k a pg)
 else if c.e0 = 8 then (if (e = a/\c.e1 = pg)/\mayP k e pg c.e2 then { q k a pg with fCa:=c.e2 } else q k a pg)
 else if (q k a pg).fCa ≠ 0/\gz k e c a (q k a pg).fDa = true then cc else q k a pg
theorem envs_of {k:PK} (ok:PK.Ok k):1 <= k.s.fHa/\k.s.fHa <= 4:=by have:=cQ.1 ok.sz; omega
theorem do_bad {k:PK} {e:Int} {c:bv} (h:off k e = true\/Word.check c k.s.fHa ≠ 0):(do_ k e c).2 = k/\(do_ k e c).1.2 = true/\(do_ k e c).1.1 = ⟨if off k e = true then 10 else Word.check c k.s.fHa,0⟩:=by
 unfold do_;by_cases h1:off k e = true
 ·rw [if_pos h1,if_pos h1]; exact ⟨rfl,rfl,rfl⟩
 ·rw [if_neg h1,if_neg h1,if_pos (h.resolve_left h1)]; exact ⟨rfl,rfl,rfl⟩
theorem do_good {k:PK} {e:Int} {c:bv} (h1:off k e = false) (h2:Word.check c k.s.fHa = 0):do_ k e c = does k e c:=by
 unfold do_; rw [if_neg (by rw [h1]; simp),if_neg (by rw [h2]; simp)]
theorem w0 {n:Int} {c:bv} (w:Well n c):i64.wrap c.e0 = c.e0:=aE (by have:=w.kind; omega) (by have:=w.kind; omega)
theorem gz_goers {k:PK} (F:Fine k) {e:Int} {c:bv} (hc:c.e0 = 4\/c.e0 = 5) (h:fAa.has k.caps e c.e1 = true) (hn:(fAa.get k.caps e c.e1).fCa ≠ 0) {a s:Int} (ha:fAa.has k.caps a s = true) (hr:(fAa.get k.caps a s).fCa ≠ 0) :
  gz k e c a s = true↔(⟨a,s⟩:ba) ∈ fAa.fVa k.caps e c.e1 (decide (c.e0 = 5)):=by
 rw [fAa.mem_goers F.ok.tree h hn];unfold gz;rw [if_pos ha];by_cases h5:c.e0 = 5/\a = e/\s = c.e1
 ·rw [if_pos h5];obtain ⟨h51,rfl,rfl⟩:=h5;simp [h51,ha,hr]
 ·rw [if_neg h5];constructor
  ·exact fun hu=>⟨ha,hr,.inr hu⟩
  ·rintro ⟨_,_,⟨h1,h2⟩ | h1⟩
   ·exact absurd ⟨of_decide_eq_true h1,congrArg au.fBa h2,congrArg au.fDa h2⟩ h5
   ·exact h1
theorem gz_empty {k:PK} (F:Fine k) {e:Int} {c:bv} (hn:(fAa.get k.caps e c.e1).fCa = 0) {a s:Int} (ha:fAa.has k.caps a s = true) (hr:(fAa.get k.caps a s).fCa ≠ 0):gz k e c a s = false:=by
 unfold gz;rw [if_neg,if_pos ha]
 ·exact fAa.under_empty F.ok.tree (p:=⟨e,c.e1⟩) hn _ a s (le_refl _) ha
 ·rintro ⟨_,rfl,rfl⟩;exact hr hn
theorem does_revoke {k:PK} {e:Int} {c:bv} (w:Well k.s.fHa c) (cw:Cw c) (hc:c.e0 = 4\/c.e0 = 5):does k e c = (((revoke k e c.e1 (decide (c.e0 = 5))).1,true),(revoke k e c.e1 (decide (c.e0 = 5))).2):=by
 have h1:i64.wrap c.e1 = c.e1:=kwr cw.c1 (by have:=w.w1 (by omega); omega);unfold does;rw [w0 w,h1];rcases hc with h | h <;> simp [h]
theorem do_q {k:PK} (F:Fine k) {e:Int} {c:bv} (cw:Cw c) (he:off k e = false) (hk:Word.check c k.s.fHa = 0) (ht:Tk c) (a pg:Int):q (do_ k e c).2 a pg = aft k e c a pg:=by
 have w:=qn (envs_of F.ok).1 (envs_of F.ok).2 hk;have h1:i64.wrap c.e1 = c.e1:=kwr cw.c1 (by have:=w.w1 (by unfold Tk at ht; omega); omega);rw [do_good he hk];have h45:c.e0 = 4\/c.e0 = 5->q (does k e c).2 a pg = aft k e c a pg:=by
  intro h;rw [does_revoke w cw h];unfold aft;rw [if_neg (by omega),if_neg (by omega)];have hh:fAa.has k.caps e c.e1 = true:=(has_iff F.ok).2 ⟨he,cw.c1,by have:=w.w1 (by omega); omega⟩;by_cases hn:(fAa.get k.caps e c.e1).fCa = 0
  ·rw [revoke_no hh hn,if_neg];rintro ⟨a1,a2⟩;have hb:=F.by_ a pg a1;rw [gz_empty F hn hb.1 (by have:=(bI hb.2.2).2; omega)] at a2;cases a2
  ·show q (revoke k e c.e1 _).2 a pg = _;rw [revoke_q F hh hn];by_cases hz:(q k a pg).fCa ≠ 0
   ·have hb:=F.by_ a pg hz;have:=gz_goers F h hh hn hb.1 (by have:=(bI hb.2.2).2; omega);by_cases hg:gz k e c a (q k a pg).fDa = true
    ·rw [if_pos ⟨hz,this.1 hg⟩,if_pos ⟨hz,hg⟩]
    ·rw [if_neg (fun x=>hg (this.2 x.2)),if_neg (fun x=>hg x.2)]
   ·rw [if_neg (fun x=>hz x.1),if_neg (fun x=>hz x.1)]
 rcases ht with h | h | h | h
 ·exact h45 (.inl h)
 ·exact h45 (.inr h)
 ·unfold aft;rw [if_pos h];have:does k e c = errs (remove k e c.e1):=by unfold does; rw [w0 w,h1]; simp [h]
  rw [this];exact remove_q F.ok he a pg
 ·unfold aft;rw [if_neg (by omega),if_pos h];have h2:i64.wrap c.e2 = c.e2:=kwr cw.c2 (by have:=w.w5 h; omega);have:does k e c = errs (protect k e c.e1 c.e2):=by unfold does; rw [w0 w,h1,h2]; simp [h]
  rw [this];have hp:=protect_q F he (pg:=c.e1) (r:=c.e2) a pg;show q (protect k e c.e1 c.e2).2 a pg = _;rw [hp];by_cases hc:e = a/\c.e1 = pg
  ·obtain ⟨rfl,rfl⟩:=hc; rfl
  ·rw [if_neg (fun x=>hc x.1),if_neg (fun x=>hc x.1)]
theorem do_mv {k:PK} (F:Fine k) {e:Int} {c:bv} (cw:Cw c):Mv k (do_ k e c).2/\(¬ Tk c->Mono k (do_ k e c).2):=by
 by_cases hb:off k e = true\/Word.check c k.s.fHa ≠ 0
 ·rw [(do_bad hb).1]; exact ⟨.refl F,fun _=>.refl k⟩
 ·simp only [not_or,Bool.not_eq_true,Decidable.not_not] at hb;obtain ⟨he,hk⟩:=hb;have w:=qn (envs_of F.ok).1 (envs_of F.ok).2 hk;rw [do_good he hk];have hs1:c.e0 ≠ 10->i64.wrap c.e1 = c.e1/\c.e1 < 8:=fun h=>⟨kwr cw.c1 (by have:=w.w1 h; omega),w.w1 h⟩
  have hh1:c.e0 ≠ 10->fAa.has k.caps e c.e1 = true:=fun h=>(has_iff F.ok).2 ⟨he,cw.c1,(hs1 h).2⟩;have c1:c.e0 = 1\/c.e0 = 2\/c.e0 = 3\/c.e0 = 4\/c.e0 = 5\/c.e0 = 6\/c.e0 = 7\/c.e0 = 8\/c.e0 = 9\/c.e0 = 10\/20 <= c.e0:=by have:=w.kind; omega
  rcases c1 with h | h | h | h | h | h | h | h | h | h | h
  ·have e1:does k e c = errs (alloc k e c.e1):=by unfold does; rw [w0 w,(hs1 (by omega)).1]; simp [h]
   rw [e1];have:=mv_alloc F (hh1 (by omega));exact ⟨this.1,fun _=>this.2⟩
  ·have h2:=w.w2 (.inl h);have h4:=w.w4 (.inl h);have e1:does k e c = errs (derive k e c.e1 e c.e2 c.e3):=by unfold does; rw [w0 w,(hs1 (by omega)).1,kwr cw.c2 (by omega),kwr cw.c3 (by omega)]; simp [h]
   rw [e1];have:=mv_derive F (r:=c.e3) (hh1 (by omega)) ((has_iff F.ok).2 ⟨he,cw.c2,by omega⟩);exact ⟨this.1,fun _=>this.2⟩
  ·have h3:=w.w3 h;have e1:does k e c = errs (derive k e c.e1 c.e2 c.e3 c.e4):=by
    unfold does; rw [w0 w,(hs1 (by omega)).1,kwr cw.c2 (by have:=(envs_of F.ok).2; omega),kwr cw.c3 (by omega),kwr cw.c4 (by omega)]; simp [h]
   rw [e1];have:=mv_derive F (r:=c.e4) (hh1 (by omega)) ((has_iff F.ok (e:=c.e2) (s:=c.e3)).2 ⟨off_iff.2 ⟨cw.c2,h3.1⟩,cw.c3,by omega⟩);exact ⟨this.1,fun _=>this.2⟩
  ·rw [does_revoke w cw (.inl h)];exact ⟨mv_revoke F (hh1 (by omega)),fun hn=>absurd (.inl h) hn⟩
  ·rw [does_revoke w cw (.inr h)];exact ⟨mv_revoke F (hh1 (by omega)),fun hn=>absurd (.inr (.inl h)) hn⟩
  ·have h2:=w.w2 (.inr h);have h4:=w.w4 (.inr h);have e1:does k e c = errs (maps k e c.e1 c.e2 c.e3):=by unfold does; rw [w0 w,(hs1 (by omega)).1,kwr cw.c2 (by omega),kwr cw.c3 (by omega)]; simp [h]
   rw [e1];have:=mv_maps F (pg:=c.e1) (s:=c.e2) (r:=c.e3) he ((has_iff F.ok).2 ⟨he,cw.c2,by omega⟩);exact ⟨this.1,fun _=>this.2⟩
  ·have e1:does k e c = errs (remove k e c.e1):=by unfold does; rw [w0 w,(hs1 (by omega)).1]; simp [h]
   rw [e1];exact ⟨mv_remove F he,fun hn=>absurd (.inr (.inr (.inl h))) hn⟩
  ·have h5:=w.w5 h;have e1:does k e c = errs (protect k e c.e1 c.e2):=by unfold does; rw [w0 w,(hs1 (by omega)).1,kwr cw.c2 (by omega)]; simp [h]
   rw [e1];exact ⟨mv_protect F he,fun hn=>absurd (.inr (.inr (.inr h))) hn⟩
  ·have e1:does k e c = (sleep k e c,k):=by unfold does; rw [w0 w]; simp [h]
   rw [e1]; exact ⟨.refl F,fun _=>.refl k⟩
  ·have e1:does k e c = ((⟨0,0⟩,true),k):=by unfold does; rw [w0 w]; simp [h]
   rw [e1]; exact ⟨.refl F,fun _=>.refl k⟩
  ·have e1:does k e c = (((user k e c).1,true),(user k e c).2):=by
    unfold does; rw [w0 w];rw [if_neg (by omega),if_neg (by omega),if_neg (by omega),if_neg (by omega),if_neg (by omega),if_neg (by omega),if_neg (by omega),if_neg (by omega),if_neg (by omega),if_neg (by omega)]
   rw [e1];have:=mv_user F e c;exact ⟨this.1,fun _=>this.2⟩
end PK
end
section
open Go Mb
theorem mid_eq (lo hi:Nat) (h:lo + hi < 2 ^ 62):i64.wrap (Int.fdiv (u64.wrap (i64.wrap ((lo:Int) + (hi:Int)))) (2 ^ (min (Int.toNat 1) (IntKind.bits .u64)))) = (((lo + hi) / 2:Nat):Int):=by
 have e0:i64.wrap ((lo:Int) + (hi:Int)) = ((lo + hi:Nat):Int):=by rw [aE (by omega) (by omega)]; rfl
 have e1:u64.wrap ((lo + hi:Nat):Int) = ((lo + hi:Nat):Int):=by
  simp only [IntKind.wrap]; first | omega | (simp [IntKind.bits,IntKind.signed]; omega)
 have e2:(2:Int) ^ (min (Int.toNat 1) (IntKind.bits .u64)) = 2:=by decide
 rw [e0,e1,e2,Int.fdiv_eq_ediv_of_nonneg _ (by decide)];have e3:((lo + hi:Nat):Int) / 2 = (((lo + hi) / 2:Nat):Int):=by omega
 rw [e3,aE (by omega) (by omega)]
structure PlaceIn (xs:List Int) (a:Int) (i:Nat):Prop where
 le:i <= xs.length
 lo:∀ k (h:k < xs.length),k < i->xs[k] < a
 hi:∀ k (h:k < xs.length),i <= k->a <= xs[k]
theorem less_eq (x y:Int):eP x y = decide (x < y):=by
 unfold eP;simp [cW]
theorem sp_BinarySearch (s:Sl) (xs:List Int) (a:Int) (hb:xs.length < 2 ^ 60) (hs:∀ i j (hi:i < xs.length) (hj:j < xs.length),i < j->xs[i] <= xs[j]) :
  Sp prog dI [sv s,.int .u64 a] aR [vU s xs] (fun r=>pa_ (∃ i,PlaceIn xs a i/\r = ((i:Int),decide (xs[i]? = some a))) [vU s xs]):=by
 intro h s0;have hl:=(aX (j:=0) s0 rfl).1;refine lF _ _ ?_;unfold fJ;refine Lp.intro (fun (z:Int × Int) h=>∃ lo hi:Nat,z = ((lo:Int),(hi:Int))/\lo <= hi/\hi <= xs.length/\(∀ k (h:k < xs.length),k < lo->xs[k] < a)/\(∀ k (h:k < xs.length),hi <= k->a <= xs[k])/\ah [vU s xs] h) (fun (z:Int × Int) _=>(z.2 - z.1).toNat)
  ⟨0,xs.length,by rw [hl]; rfl,Nat.zero_le _,le_refl _,fun k h h'=>by omega,fun k h h'=>by omega,s0⟩ ?_
 rintro z h ⟨lo,hi,rfl,h1,h2,h3,h4,s1⟩;unfold fI;refine ar (fun k=>?_) (fun k=>?_)
 ·have hlt:lo < hi:=by have:=of_decide_eq_true k; simp at this; exact this
  have hm:=mid_eq lo hi (by omega);simp only [hm];have hml:(lo + hi) / 2 < xs.length:=by omega
  refine bE s1 (j:=0) rfl (by omega) (by omega) fun q hq=>?_;refine bK (j:=0) (i:=(lo + hi) / 2) (k:=0) xs[(lo + hi) / 2] (bd _) s1 rfl hq (by rw [toNat_natCast]; rfl) (al hml) (by simp) ?_;rw [less_eq];refine ar (fun k2=>?_) (fun k2=>?_)
  ·have k2':xs[(lo + hi) / 2] < a:=by simpa using k2
   have hw:i64.wrap ((((lo + hi) / 2:Nat):Int) + 1) = (((lo + hi) / 2 + 1:Nat):Int):=by rw [aE (by omega) (by omega)]; rfl
   rw [hw];refine ⟨⟨(lo + hi) / 2 + 1,hi,rfl,by omega,h2,fun k hk hk'=>?_,h4,s1⟩,?_⟩
   ·by_cases e:k = (lo + hi) / 2
    ·subst e; exact k2'
    ·have:=hs k _ hk hml (by omega); omega
   ·show ((hi:Int) - (((lo + hi) / 2 + 1:Nat):Int)).toNat < ((hi:Int) - (lo:Int)).toNat;omega
  ·have k2':¬ xs[(lo + hi) / 2] < a:=by simpa using k2
   refine ⟨⟨lo,(lo + hi) / 2,rfl,by omega,by omega,h3,fun k hk hk'=>?_,s1⟩,?_⟩
   ·by_cases e:k = (lo + hi) / 2
    ·subst e; omega
    ·have:=hs _ k hml hk (by omega); omega
   ·show ((((lo + hi) / 2:Nat):Int) - (lo:Int)).toNat < ((hi:Int) - (lo:Int)).toNat;omega
 ·have hlt:lo = hi:=by have:=of_decide_eq_false k; simp at this; omega
  subst hlt;have hp:PlaceIn xs a lo:=⟨h2,h3,h4⟩
  refine ar (fun k2=>?_) (fun k2=>?_)
  ·have hlt:lo < xs.length:=by rw [hl] at k2; simpa using k2
   refine bE s1 (j:=0) rfl (by omega) (by show (lo:Int) < _; omega) fun q hq=>?_;refine bK (j:=0) (i:=lo) (k:=0) xs[lo] (bd _) s1 rfl hq (by simp) (al hlt) (by simp) ?_;refine ar (fun k3=>?_) (fun k3=>?_)
   ·have k3':¬ xs[lo] = a:=by simpa using k3
    refine bK (j:=0) (i:=lo) (k:=0) xs[lo] (bd _) s1 rfl hq (by simp) (al hlt) (by simp) ?_;exact aw ⟨lo,hp,by simp [dr,hlt,k3']⟩ s1
   ·have k3':xs[lo] = a:=by simpa using k3
    exact aw ⟨lo,hp,by simp [hlt,k3']⟩ s1
  ·have hlt:¬ lo < xs.length:=by rw [hl] at k2; simpa using k2
   exact aw ⟨lo,hp,by simp [List.getElem?_eq_none (Nat.le_of_not_lt hlt)]⟩ s1
def sub (m:Nat) (s:Sl) (lo hi:Nat):Sl:=⟨if s.cap = lo then s.a else s.a.map (fun q=>(q.1,q.2 + lo * m)),hi - lo,s.cap - lo,none⟩
theorem pa_map (p:Ptr) (n:Nat):(pa p).map (·.add n) = pa (p.map fun q=>(q.1,q.2 + n)):=by
 cases p with
 | none=>rfl
 | some q=>simp [pa,add_plain]
theorem slice_raw {P:Program} {h:Hp} {S T m bys:Nat} {z:List Value} {s:Sl} {lo hi:Nat} {vlo vhi:Option Value} {R:Sl->Value} {K:Sl->Hp->Prop} (E:El P S T m bys z) (hR:R = sv)
  (hlo:vlo = some (.int .i64 lo)\/vlo = none/\lo = 0) (hhi:vhi = some (.int .i64 hi)\/vhi = none/\hi = s.len) (h1:lo <= hi) (h2:hi <= s.cap) (k:K (sub m s lo hi) h):hpv P (Instr.sliceAt S (sv s) vlo vhi none) R K h:=by
 subst hR;refine ⟨?_⟩;obtain ⟨inf,hinf,e1,e2,e3⟩:=E.inf;unfold Instr.sliceAt;refine bt (ci E.sl ?_);show hp P (Instr.slice S (sv s) _ _ _) _ _;unfold Instr.slice;refine bt (ci E.sl ?_);simp only [sv];refine bt ?_;unfold Instr.sliceBounds;have fin:∀ hh:Hp,hh = h->hp P (do let size ← sizeOf T; pure (Value.slice (if s.cap = lo then pa s.a else (pa s.a).map (·.add (lo * size))) (hi - lo) (s.cap - lo))) (fun v h'=>∃ r,v = sv r/\K r h') hh:=by
  rintro _ rfl;refine bt (nK hinf ?_);rw [e1];refine ⟨sub m s lo hi,?_,k⟩;unfold sub sv;split
  ·rfl
  ·rw [pa_map]
 rcases hhi with rfl | ⟨rfl,rfl⟩
 ·refine bt (bt (bt ?_));unfold Instr.sliceBound;refine bt (tR ?_);refine hp_yes ⟨by omega,by omega⟩ ?_;rcases hlo with rfl | ⟨rfl,rfl⟩
  ·refine bt (bt (tR ?_));refine hp_yes ⟨by omega,by omega⟩ ?_;exact fin h rfl
  ·exact fin h rfl
 ·refine bt (bt ?_);rcases hlo with rfl | ⟨rfl,rfl⟩
  ·refine bt ?_;unfold Instr.sliceBound;refine bt (tR ?_);refine hp_yes ⟨by omega,by omega⟩ ?_;exact fin h rfl
  ·exact fin h rfl
end
section
open Go Mb
attribute [local irreducible] bM gR il Val Tx Tu Tn RV Res br nn ix gd ld st nw cl clv dL Lp ct
def sh_mail_New (a0:Int) (K:kT Ptr):hT:=br ((decide (a0 < 1)) || (decide (a0 > 8))) ( K none) ( hpv prog (Instr.makeSlice pR (.int .i64 a0) (.int .i64 a0)) R_SSuint64 fun (v10:Sl)=>nw kK (nM.C (⟨v10⟩:nM)) fun b12=>K (some (b12,0)))
theorem sim_mail_New (a0:Int) {K:kT Ptr} {h:Hp} (H:sh_mail_New a0 K h):cl prog tH [(.int .i64 a0)] oR K h:=J [] func51 H
def sh_mail_Mail_is (a0:Ptr) (a1:Int) (K:kT Bool):hT:=br ((!a0.isNone) && (decide (a1 >= 0))) ( nn a0 fun q14=>ld (q14.1,q14.2 + 0) cS fun x16=>K (decide (a1 < (x16.len:Int)))) ( K false)
theorem sim_mail_Mail_is (a0:Ptr) (a1:Int) {K:kT Bool} {h:Hp} (H:sh_mail_Mail_is a0 a1 K h):cl prog ll [(pv a0),(.int .i64 a1)] ai K h:=J [] func154 H
def uu (a0:Ptr) (a1:Int) (a2:Int) (a3:Int) (K:kT Bool):hT:=cl prog ll [(pv a0),(.int .i64 a1)] ai fun r13=>br (!(!r13)) ( cl prog ll [(pv a0),(.int .i64 a2)] ai fun r18=>br ((!r18) || (a1 == a2)) ( K false) ( nn a0 fun q28=>ld (q28.1,q28.2 + 0) cS fun x30=>ix x30 a2 fun q32=>ld (q32.1,q32.2 + Int.toNat a2 * 1) cS fun x33=>cl prog dI [(sv x33),(.int .u64 a3)] aR fun r35=>br (!r35.2) ( ld (q28.1,q28.2 + 0) cS fun x48=>ix x48 a2 fun q50=>ld (q50.1,q50.2 + Int.toNat a2 * 1) cS fun x51=>dL ( ld (q28.1,q28.2 + 0) cS fun x43=>hpv prog (Instr.buildSlice aG 1 #[(0,(.int .u64 a3))]) bi fun (v54:Sl)=>cl prog cG [(sv x51),(.int .i64 r35.1),(sv v54)] bi fun r55=>ix x43 a2 fun q56=>st (q56.1,q56.2 + Int.toNat a2 * 1) [sv r55]<|K true) ( hpv prog (Instr.buildSlice aG 1 #[(0,(.int .u64 a3))]) bi fun (v54:Sl)=>dL ( ld (q28.1,q28.2 + 0) cS fun x43=>cl prog cG [(sv x51),(.int .i64 r35.1),(sv v54)] bi fun r55=>ix x43 a2 fun q56=>st (q56.1,q56.2 + Int.toNat a2 * 1) [sv r55]<|K true) ( cl prog cG [(sv x51),(.int .i64 r35.1),(sv v54)] bi fun r55=>ld (q28.1,q28.2 + 0) cS fun x43=>ix x43 a2 fun q56=>st (q56.1,q56.2 + Int.toNat a2 * 1) [sv r55]<|K true))) ( K true))) ( K false)
theorem sim_mail_Mail_Send (a0:Ptr) (a1:Int) (a2:Int) (a3:Int) {K:kT Bool} {h:Hp} (H:uu a0 a1 a2 a3 K h):cl prog qe [(pv a0),(.int .i64 a1),(.int .i64 a2),(.int .u64 a3)] ai K h:=have z0:OH 5 [0,4,8,16,20,24,28,36,48,52,33,40,45] (.b 3 14 [58,62,64,70] .e [] (.b 3 15 [62,64,70] .e [13,64,70] .e)) []:=⟨⟩; J [] func127 H
def wN (a1:Int) (a2:Int) (K:kT Int) (q12:Nat × Nat) (x14:Sl) (Rec7:kT (Int × Int)) (s6:Int × Int):hT:=br (decide (s6.2 < (x14.len:Int))) ( cl prog qe [(.pointer (some ⟨q12.1,q12.2,none⟩)),(.int .i64 a1),(.int .i64 s6.2),(.int .u64 a2)] ai fun r23=>br r23 ( Rec7 ((i64.wrap (s6.1 + 1)),(i64.wrap (s6.2 + 1)))) ( Rec7 (s6.1,(i64.wrap (s6.2 + 1))))) ( K s6.1)
def wx (a0:Ptr) (a1:Int) (a2:Int) (K:kT Int):hT:=br a0.isNone ( K 0) ( nn a0 fun q12=>ld (q12.1,q12.2 + 0) cS fun x14=>Lp (wN a1 a2 K q12 x14) (0,0))
theorem sim_mail_Mail_All (a0:Ptr) (a1:Int) (a2:Int) {K:kT Int} {h:Hp} (H:wx a0 a1 a2 K h):cl prog mR [(pv a0),(.int .i64 a1),(.int .u64 a2)] cH K h:=have z0:LH (σ:=Int × Int) 5 0 (fun s6 r=>(7,(.int .i64 s6.1))::(16,(.int .i64 s6.2))::r) [7,16] [0,1,2,15] (fun _ l=>l):=⟨⟩; J [] func85 H
def tj (a0:Ptr) (a1:Int) (K:kT Int):hT:=cl prog ll [(pv a0),(.int .i64 a1)] ai fun r7=>br (!r7) ( K 0) ( nn a0 fun q10=>ld (q10.1,q10.2 + 0) cS fun x12=>ix x12 a1 fun q14=>ld (q14.1,q14.2 + Int.toNat a1 * 1) cS fun x15=>K (x15.len:Int))
theorem sim_mail_Mail_Waits (a0:Ptr) (a1:Int) {K:kT Int} {h:Hp} (H:tj a0 a1 K h):cl prog kA [(pv a0),(.int .i64 a1)] cH K h:=J [] func109 H
def ut (a0:Ptr) (a1:Int) (K:kT (Int × Bool)):hT:=cl prog kA [(pv a0),(.int .i64 a1)] cH fun r9=>br (r9 == 0) ( K (0,false)) ( nn a0 fun q12=>ld (q12.1,q12.2 + 0) cS fun x14=>ix x14 a1 fun q16=>ld (q16.1,q16.2 + Int.toNat a1 * 1) cS fun x17=>ix x17 0 fun q18=>ld (q18.1,q18.2 + Int.toNat 0 * 1) (cI .u64) fun x19=>ld (q12.1,q12.2 + 0) cS fun x28=>ix x28 a1 fun q30=>ld (q30.1,q30.2 + Int.toNat a1 * 1) cS fun x31=>dL ( ld (q12.1,q12.2 + 0) cS fun x23=>hpv prog (Instr.sliceAt aG (sv x31) (some (.int .i64 1)) none none) bi fun (v32:Sl)=>ix x23 a1 fun q33=>st (q33.1,q33.2 + Int.toNat a1 * 1) [sv v32]<|K (x19,true)) ( hpv prog (Instr.sliceAt aG (sv x31) (some (.int .i64 1)) none none) bi fun (v32:Sl)=>ld (q12.1,q12.2 + 0) cS fun x23=>ix x23 a1 fun q33=>st (q33.1,q33.2 + Int.toNat a1 * 1) [sv v32]<|K (x19,true)))
theorem sim_mail_Mail_Take (a0:Ptr) (a1:Int) {K:kT (Int × Bool)} {h:Hp} (H:ut a0 a1 K h):cl prog lL [(pv a0),(.int .i64 a1)] aU K h:=have z0:OH 4 [0,4,8,16,20,24,28,36,33,40,45] (.b 3 12 [50,52,58] .e [13,52,58] .e) []:=⟨⟩; J [] func88 H
end
section
open Go Mb
theorem uZ (s y:Sl) (xs:List Int) (a:Int) (hl:xs.length < 2 ^ 40) :
  Sp prog cG [sv s,.int .i64 xs.length,sv y] bi [vU s xs,vU y [a]] (fun r=>vU r (xs++[a])):=by
 intro h s0;have hs:=(aX (j:=0) s0 rfl).1;have hy:=(aX (j:=1) s0 rfl).1;have hcap:s.len <= s.cap:=star_fact (i:=0) rfl (fun _ hv=>hv.2.1) s0;refine oU _ _ _ ?_;unfold iF;refine slice_raw (lo:=xs.length) (hi:=s.len) eX rfl (.inl rfl) (.inr ⟨rfl,rfl⟩) (by omega) hcap ?_;refine bB (by rw [hy]; rfl) ?_;refine cg (by rw [hs]; simp) ?_;refine ru (τ:=Int) (i:=0) (j:=1) (enc:=cI .u64) (ys:=[a]) eX eX.sl (bd _) (oneI _) s0 rfl rfl (by omega) (by simp; omega) (by simp; omega) fun v h2 s2=>?_;obtain ⟨h3,h4,d,rfl,a2,_⟩:=s2;obtain ⟨e1,e2,e3⟩:=a2;refine ⟨e1,e2,?_⟩;rcases e3 with e3 | ⟨b,pre,rest,U,fr,f1,f2,fg,f3⟩
 ·exact .inl e3
 ·exact .inr ⟨b,pre,rest,U,fr,f1,f2,fg,un_left f3⟩
def iv (x:Ptr) (bs:List (List Int)):As:=fun h=>∃ z:Nat × Sl × List Sl,(x = some (z.1,0)/\z.2.2.length = bs.length/\bs.length <= 8)/\ah [blk z.1 kK [sv z.2.1],vec aG 1 cS z.2.1 z.2.2,all vU z.2.2 bs] h
theorem mail_op {x:Ptr} {bs:List (List Int)} {l:List As} {h:Hp} (s0:ah (iv x bs::l) h):∃ b s ss,x = some (b,0)/\ss.length = bs.length/\bs.length <= 8/\s.len = bs.length/\ah (blk b kK [sv s]::vec aG 1 cS s ss::all vU ss bs::l) h:=by
 obtain ⟨⟨b,s,ss⟩,⟨hx,h1,h2⟩,st⟩:=op_ s0;exact ⟨b,s,ss,hx,h1,h2,(aX (j:=1) st rfl).1.trans h1,st⟩
theorem mail_cl {b:Nat} {s:Sl} {ss:List Sl} {bs:List (List Int)} {l:List As} {h:Hp} (h1:ss.length = bs.length) (h2:bs.length <= 8) (st:ah (blk b kK [sv s]::vec aG 1 cS s ss::all vU ss bs::l) h):ah (iv (some (b,0)) bs::l) h :=
 cl_ (m:=fun z:Nat × Sl × List Sl=>[blk z.1 kK [sv z.2.1],vec aG 1 cS z.2.1 z.2.2,all vU z.2.2 bs]) (b,s,ss) ⟨rfl,h1,h2⟩ st
namespace Mail
abbrev S:=List (List Int)
def has (bs:S) (c:Int):Bool:=decide (0 <= c/\c < bs.length)
def box (bs:S) (c:Int):List Int:=bs.getD c.toNat []
def send (bs:S) (f t e:Int):Bool × S:=if has bs f = true/\has bs t = true/\f ≠ t then (true,bs.set t.toNat (box bs t++[e])) else (false,bs)
def sends (bs:S) (f e:Int):Nat->Int × S
 | 0=>(0,bs)
 | n + 1=>if (send (sends bs f e n).2 f n e).1 then ((sends bs f e n).1 + 1,(send (sends bs f e n).2 f n e).2) else ((sends bs f e n).1,(send (sends bs f e n).2 f n e).2)
def waits (bs:S) (c:Int):Int:=if has bs c then (box bs c).length else 0
def take (bs:S) (c:Int):(Int × Bool) × S:=if waits bs c = 0 then ((0,false),bs) else (((box bs c).getD 0 0,true),bs.set c.toNat ((box bs c).drop 1))
structure Fit (l:List Int) (e:Int):Prop where
 lt:∀ x ∈ l,x < e
 up:l.Pairwise (· < ·)
 len:l.length < 2 ^ 40
theorem send_len (bs:S) (f t e:Int):(send bs f t e).2.length = bs.length:=by unfold send; split <;> simp
theorem sends_len (bs:S) (f e:Int):∀ n,(sends bs f e n).2.length = bs.length
 | 0=>rfl
 | n + 1=>by unfold sends; split <;> simp only [send_len,sends_len bs f e n]
theorem send_other (bs:S) (f e:Int) (n m:Nat) (h:n ≠ m):(send bs f n e).2[m]? = bs[m]?:=by
 unfold send; split
 ·simp only [toNat_natCast]; rw [List.getElem?_set_ne h]
 ·rfl
theorem sends_ge (bs:S) (f e:Int):∀ n m,n <= m->(sends bs f e n).2[m]? = bs[m]?
 | 0,_,_=>rfl
 | n + 1,m,h=>by unfold sends; split <;> simp only <;> rw [send_other _ _ _ _ _ (by omega),sends_ge bs f e n m (by omega)]
end Mail
theorem nils:∀ (n:Nat) {l:List As} {h:Hp},ah l h->ah (all vU (replicate n (⟨none,0,0,none⟩:Sl)) (replicate n ([]:List Int))::l) h
 | 0,_,_,s=>all_nil s
 | n + 1,l,h,s=>by
  have s1:=dp (τ:=Int) (T:=t_uint64) (m:=1) (enc:=cI .u64) (nils n s);rw [List.replicate_succ,List.replicate_succ];obtain ⟨h1,h2,d,e,a,h3,h4,d2,e2,b,s'⟩:=s1;subst e2;obtain ⟨d3,d4⟩:=Dj.of_un_right d;exact ⟨un h1 h3,h4,Dj.un_left d4 d2,by rw [e,mC],⟨h1,h3,d3,rfl,a,b⟩,s'⟩
theorem sp_mail_New (n:Int) (h1:¬ n < 1) (h2:¬ n > 8):Sp prog tH [.int .i64 n] oR [] (fun r=>ah [iv r (replicate n.toNat [])]):=by
 intro h st;refine sim_mail_New _ ?_;unfold sh_mail_New;obtain ⟨m,rfl⟩:=Int.eq_ofNat_of_zero_le (show 0 <= n by omega);refine bB (by simp; omega) ?_;refine nI (τ:=Sl) (x0:=⟨none,0,0,none⟩) (enc:=cS) (n:=m) (T:=aG) (m:=1) uV rfl st ?_ ?_ ?_
 ·omega
 ·omega
 ·intro v h' s1;have s2:=nils m s1;refine nP s2 fun b h'' s3=>?_;exact mail_cl (by simp) (by simp; omega) (aA [0,1] s3 rfl)
theorem sp_mail_is (x:Ptr) (bs:Mail.S) (c:Int):Sp prog ll [pv x,.int .i64 c] ai [iv x bs] (fun r=>pa_ (r = Mail.has bs c) [iv x bs]):=by
 intro h s0;obtain ⟨b,s,ss,rfl,hss,hb,hs,st⟩:=mail_op s0;refine sim_mail_Mail_is _ _ ?_;unfold sh_mail_Mail_is;refine ar (fun k=>?_) (fun k=>?_)
 ·have k':0 <= c:=by simpa using k
  refine bn (aJ s st (i:=0) rfl rfl rfl ?_);exact aw (by simp [Mail.has,k',hs]) s0
 ·have k':¬ 0 <= c:=by simpa using k
  exact aw (by simp [Mail.has]; intro h; exact absurd h k') s0
theorem has_nat {bs:Mail.S} {c:Int} (h:Mail.has bs c = true):∃ n:Nat,c = n/\n < bs.length:=by
 unfold Mail.has at h;have:=of_decide_eq_true h;exact ⟨c.toNat,by omega,by omega⟩
theorem place_end {l:List Int} {e:Int} (f:Mail.Fit l e) {i:Nat} (p:PlaceIn l e i):i = l.length:=by
 rcases Nat.lt_or_ge i l.length with h | h
 ·have h1:=p.hi i h (le_refl _);have h2:=f.lt _ (List.getElem_mem h);omega
 ·have:=p.le; omega
theorem sp_mail_Send (x:Ptr) (bs:Mail.S) (f t e:Int) (hf:∀ l,bs[t.toNat]? = some l->Mail.Fit l e):Sp prog qe [pv x,.int .i64 f,.int .i64 t,.int .u64 e] ai [iv x bs] (fun r=>pa_ (r = (Mail.send bs f t e).1) [iv x (Mail.send bs f t e).2]):=by
 intro h s0;refine sim_mail_Mail_Send _ _ _ _ ?_;unfold uu;refine bG [0] (sp_mail_is x bs f) s0 rfl fun r h1 s1=>?_;obtain ⟨rfl,s2⟩:=aM.1 s1;have no:¬ (Mail.has bs f = true/\Mail.has bs t = true/\f ≠ t)->Mail.send bs f t e = (false,bs):=fun hh=>if_neg hh;refine ar (fun k=>?_) (fun k=>?_)
 ·have k':Mail.has bs f = true:=by simpa using k
  refine bG [0] (sp_mail_is x bs t) s2 rfl fun r h3 s3=>?_;obtain ⟨rfl,s4⟩:=aM.1 s3;refine ar (fun k2=>?_) (fun k2=>?_)
  ·rw [no (by simp at k2; intro hh; rcases k2 with k2 | k2; exact absurd hh.2.1 (by simp [k2]); exact hh.2.2 k2)];exact aw rfl s4
  ·have k2':Mail.has bs t = true/\f ≠ t:=by simpa using k2
   obtain ⟨n,rfl,hn⟩:=has_nat k2'.1;have ed:Mail.send bs f n e = (true,bs.set n (Mail.box bs n++[e])):=if_pos ⟨k',k2'.1,k2'.2⟩;rw [ed];obtain ⟨b,s,ss,rfl,hss,hb,hs,st⟩:=mail_op s4;have hns:n < ss.length:=by omega
   have hg:Mail.box bs n = bs[n]:=by simp [Mail.box,hn]
   have fit:=hf bs[n] (by rw [toNat_natCast]; exact al hn);refine bn (aJ s st (i:=0) rfl rfl rfl ?_);refine bE st (j:=1) rfl (by omega) (by omega) fun q hq=>?_;refine bK (j:=1) (i:=n) (k:=0) ss[n] rJ st rfl hq (by simp) (al hns) (by simp) ?_;have st1:=gJ (al hns) (al hn) (aA [2] st rfl);refine bG [0] (sp_BinarySearch ss[n] bs[n] e (by have:=fit.len; omega) (fun i j hi hj hij=>Int.le_of_lt (List.pairwise_iff_getElem.1 fit.up i j hi hj hij))) st1 rfl fun r h5 s5=>?_;obtain ⟨⟨i,pi,hr⟩,s6⟩:=aM.1 s5;have hi:=place_end fit pi;subst hi;have hr2:r.2 = false:=by rw [hr]; simp
   refine cg (by rw [hr2]; rfl) ?_;refine aJ s s6 (i:=2) rfl rfl rfl ?_;refine bE s6 (j:=3) rfl (by omega) (by omega) fun q2 hq2=>?_;refine bK (j:=3) (i:=n) (k:=0) ss[n] rJ s6 rfl hq2 (by simp) (al hns) (by simp) ?_;have fin:∀ (r55:Sl) (v54:Sl) (h:Hp),ah [vU r55 (bs[n]++[e]),but vU ss bs n,blk b kK [sv s],vec aG 1 cS s ss] h ->
     ix s n (fun q56=>Mb.st (q56.1,q56.2 + Int.toNat n * 1) [sv r55]<|pa_ (true = true) [iv (some (b,0)) (bs.set n (bs[n]++[e]))]) h:=by
    intro r55 v54 h s7;refine bE s7 (j:=3) rfl (by omega) (by omega) fun q3 hq3=>?_;refine tZ (j:=3) (i:=n) (k:=0) r55 rJ s7 rfl hq3 (by simp) (al hns) (by simp) rfl fun h8 s8=>?_;have s9:=all_in2 (y:=bs[n]++[e]) hn hss s8;exact aw rfl (mail_cl (by simpa using hss) (by simpa using hb) (aA [1,1] s9 rfl))
   rw [hg,hr];refine ⟨?_,?_⟩
   ·refine aJ s s6 (i:=2) rfl rfl rfl ?_;refine db (τ:=Int) [e] (val:=fun x=>.int .u64 x) (enc:=cI .u64) eX (bd _) (fun _=>rfl) s6 rfl rfl (by simp) fun y h' s7=>?_;refine bG [1,0] (uZ ss[n] y bs[n] e fit.len) s7 rfl fun r h8 s8=>?_;exact fin r y h8 s8
   ·refine db (τ:=Int) [e] (val:=fun x=>.int .u64 x) (enc:=cI .u64) eX (bd _) (fun _=>rfl) s6 rfl rfl (by simp) fun y h' s7=>?_;refine ⟨?_,?_⟩
    ·refine aJ s s7 (i:=3) rfl rfl rfl ?_;refine bG [1,0] (uZ ss[n] y bs[n] e fit.len) s7 rfl fun r h8 s8=>?_;exact fin r y h8 s8
    ·refine bG [1,0] (uZ ss[n] y bs[n] e fit.len) s7 rfl fun r h8 s8=>?_;refine aJ s s8 (i:=2) rfl rfl rfl ?_;exact fin r y h8 s8
 ·rw [no (by simp at k; simp [k])];exact aw rfl s2
theorem sp_mail_All (x:Ptr) (bs:Mail.S) (f e:Int) (hf:∀ l ∈ bs,Mail.Fit l e):Sp prog mR [pv x,.int .i64 f,.int .u64 e] cH [iv x bs] (fun r=>pa_ (r = (Mail.sends bs f e bs.length).1) [iv x (Mail.sends bs f e bs.length).2]):=by
 intro h s0;obtain ⟨b,s,ss,rfl,hss,hb,hs,st⟩:=mail_op s0;refine sim_mail_Mail_All _ _ _ ?_;unfold wx;refine bB rfl (bn (aJ s st (i:=0) rfl rfl rfl ?_));refine Lp.intro (fun (z:Int × Int) h=>∃ n:Nat,z.2 = n/\n <= bs.length/\z.1 = (Mail.sends bs f e n).1/\0 <= z.1/\z.1 <= n/\ah [iv (some (b,0)) (Mail.sends bs f e n).2] h) (fun (z:Int × Int) _=>bs.length - z.2.toNat) ⟨0,rfl,Nat.zero_le _,rfl,Int.le_refl _,Int.le_refl _,s0⟩ ?_;rintro ⟨z,i⟩ h ⟨n,rfl,hn,hz,hz0,hz1,s1⟩;simp only at hz hz0 hz1;unfold wN;refine ar (fun k=>?_) (fun k=>?_)
 ·have hlt:n < bs.length:=by rw [hs] at k; simpa using k
  have hw:i64.wrap ((n:Int) + 1) = ((n + 1:Nat):Int):=by rw [aE (by omega) (by omega)]; rfl
  have hw2:i64.wrap (z + 1) = z + 1:=aE (by omega) (by omega);refine bG [0] (sp_mail_Send (some (b,0)) (Mail.sends bs f e n).2 f n e ?_) s1 rfl fun r h2 s2=>?_
  ·intro l hl;rw [toNat_natCast,Mail.sends_ge bs f e n n (le_refl _)] at hl;exact hf l (List.mem_of_getElem? hl)
  obtain ⟨rfl,s3⟩:=aM.1 s2;refine ar (fun k2=>?_) (fun k2=>?_)
  ·have e1:Mail.sends bs f e (n + 1) = ((Mail.sends bs f e n).1 + 1,(Mail.send (Mail.sends bs f e n).2 f n e).2):=by rw [Mail.sends,if_pos k2]
   rw [hw,hw2];refine ⟨⟨n + 1,rfl,hlt,?_,by simp only; omega,by simp only; omega,?_⟩,by simp; omega⟩
   ·rw [e1,hz]
   ·rw [e1]; exact s3
  ·have e1:Mail.sends bs f e (n + 1) = ((Mail.sends bs f e n).1,(Mail.send (Mail.sends bs f e n).2 f n e).2):=by rw [Mail.sends,if_neg (by rw [k2]; exact Bool.false_ne_true)]
   rw [hw];refine ⟨⟨n + 1,rfl,hlt,?_,by simp only; omega,by simp only; omega,?_⟩,by simp; omega⟩
   ·rw [e1,hz]
   ·rw [e1]; exact s3
 ·have:n = bs.length:=by rw [hs] at k; simp at k; omega
  subst this;exact aw hz s1
theorem sp_mail_Waits (x:Ptr) (bs:Mail.S) (c:Int):Sp prog kA [pv x,.int .i64 c] cH [iv x bs] (fun r=>pa_ (r = Mail.waits bs c) [iv x bs]):=by
 intro h s0;refine sim_mail_Mail_Waits _ _ ?_;unfold tj;refine bG [0] (sp_mail_is x bs c) s0 rfl fun r h1 s1=>?_;obtain ⟨rfl,s2⟩:=aM.1 s1;refine ar (fun k=>?_) (fun k=>?_)
 ·have k':Mail.has bs c = false:=by simpa using k
  exact aw (by simp [Mail.waits,k']) s2
 ·have k':Mail.has bs c = true:=by simpa using k
  obtain ⟨n,rfl,hn⟩:=has_nat k';obtain ⟨b,s,ss,rfl,hss,hb,hs,st⟩:=mail_op s2;have hns:n < ss.length:=by omega
  refine bn (aJ s st (i:=0) rfl rfl rfl ?_);refine bE st (j:=1) rfl (by omega) (by omega) fun q hq=>?_;refine bK (j:=1) (i:=n) (k:=0) ss[n] rJ st rfl hq (by simp) (al hns) (by simp) ?_;have st1:=gJ (al hns) (al hn) (aA [2] st rfl);have hl:=(aX (j:=0) st1 rfl).1;exact aw (by simp [Mail.waits,k',Mail.box,hn,hl]) s2
theorem sp_mail_Take (x:Ptr) (bs:Mail.S) (c:Int):Sp prog lL [pv x,.int .i64 c] aU [iv x bs] (fun r=>pa_ (r = (Mail.take bs c).1) [iv x (Mail.take bs c).2]):=by
 intro h s0;refine sim_mail_Mail_Take _ _ ?_;unfold ut;refine bG [0] (sp_mail_Waits x bs c) s0 rfl fun r h1 s1=>?_;obtain ⟨rfl,s2⟩:=aM.1 s1;refine ar (fun k=>?_) (fun k=>?_)
 ·have k':Mail.waits bs c = 0:=by simpa using k
  have e1:Mail.take bs c = ((0,false),bs):=if_pos k';rw [e1];exact aw rfl s2
 ·have k':¬ Mail.waits bs c = 0:=by simpa using k
  have e1:Mail.take bs c = (((Mail.box bs c).getD 0 0,true),bs.set c.toNat ((Mail.box bs c).drop 1)):=if_neg k';rw [e1];have hh:Mail.has bs c = true:=by
   unfold Mail.waits at k';cases e:Mail.has bs c with
   | true=>rfl
   | false=>rw [e] at k'; exact absurd rfl k'
  obtain ⟨n,rfl,hn⟩:=has_nat hh;obtain ⟨b,s,ss,rfl,hss,hb,hs,st⟩:=mail_op s2;have hns:n < ss.length:=by omega
  have hg:Mail.box bs n = bs[n]:=by simp [Mail.box,hn]
  have h0:0 < bs[n].length:=by
   unfold Mail.waits at k';rw [hh,hg] at k';simp at k';exact List.length_pos_iff.2 k'
  rw [hg];refine bn (aJ s st (i:=0) rfl rfl rfl ?_);refine bE st (j:=1) rfl (by omega) (by omega) fun q hq=>?_;refine bK (j:=1) (i:=n) (k:=0) ss[n] rJ st rfl hq (by simp) (al hns) (by simp) ?_;have st1:=gJ (al hns) (al hn) (aA [2] st rfl);refine bE st1 (j:=0) rfl (by omega) (by omega) fun q1 hq1=>?_;refine bK (j:=0) (i:=0) (k:=0) bs[n][0] (bd _) st1 rfl hq1 (by simp) (al h0) (by simp) ?_;refine aJ s st1 (i:=2) rfl rfl rfl ?_;refine bE st1 (j:=3) rfl (by omega) (by omega) fun q2 hq2=>?_;refine bK (j:=3) (i:=n) (k:=0) ss[n] rJ st1 rfl hq2 (by simp) (al hns) (by simp) ?_;have fin:∀ (v:Sl) (h:Hp),ah [vU v (bs[n].drop 1),but vU ss bs n,blk b kK [sv s],vec aG 1 cS s ss] h ->
    ix s n (fun q33=>Mb.st (q33.1,q33.2 + Int.toNat n * 1) [sv v]<|pa_ ((bs[n][0],true) = ((bs[n].getD 0 0,true):Int × Bool)) [iv (some (b,0)) (bs.set n (bs[n].drop 1))]) h:=by
   intro v h s7;refine bE s7 (j:=3) rfl (by omega) (by omega) fun q3 hq3=>?_;refine tZ (j:=3) (i:=n) (k:=0) v rJ s7 rfl hq3 (by simp) (al hns) (by simp) rfl fun h8 s8=>?_;have s9:=all_in2 (y:=bs[n].drop 1) hn hss s8;exact aw (by simp [h0]) (mail_cl (by simpa using hss) (by simpa using hb) (aA [1,1] s9 rfl))
  refine ⟨?_,?_⟩
  ·refine aJ s st1 (i:=2) rfl rfl rfl ?_;refine sliceFrom_v (i:=0) (n:=1) eX (bd _) rfl st1 rfl h0 fun v s5=>?_;exact fin v _ s5
  ·refine sliceFrom_v (i:=0) (n:=1) eX (bd _) rfl st1 rfl h0 fun v s5=>?_;refine aJ s s5 (i:=2) rfl rfl rfl ?_;exact fin v _ s5
end
end Go.Proofs.YtjcamacgclipiaaGreatDoor
