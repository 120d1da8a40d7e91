/- Part of the proof of: The law KernBuffers returns true for every input, and leaves its arguments as they were. -/
import Derived.Test.YtjcamacgclipiaaGreatDoorKernBuffers11
set_option linter.all false
set_option maxRecDepth 20000
set_option maxHeartbeats 4000000
namespace Go.Proofs.YtjcamacgclipiaaGreatDoor
open Go.Proofs.Tryz
open Go.IntKind (i64 u64)
open _root_.Int (le_refl toNat_natCast)
open _root_.List (getElem?_set replicate set_set)
open _root_.Nat (le_of_ble_eq_true zero_le)
section
open Go Mb
abbrev vG (s:Sl) (xs:List Pte):As:=vec t_api_Pte 3 ak.C s xs
theorem pte_one (p:Pte):ce p.C = true:=rfl
namespace fKa
def ev (es:List aL) (i:Int):aL:=es.getD i.toNat Hist.ev00
def takes (e:aL):Bool:=(am e.fJa).1 == 7 || (am e.fJa).1 == 8 || (am e.fJa).1 == 4 || (am e.fJa).1 == 5
def fHb (k:PK) (es:List aL) (env pg:Int):List Int->List Pte
 | []=>[]
 | i::l=>if takes (ev es i) = true then (PK.pte (PK.do_ k (ev es i).fBa (ev es i).fJa).2 env pg).1::fHb k es env pg l else fHb k es env pg l
def others (k:PK) (es:List aL) (at_ env pg:Int):List Pte:=(PK.pte k env pg).1::fHb k es env pg (Hist.over es at_)
def faults (e:aL) (l:List Pte):Bool:=l.any fun p=>!(bk p.fCa (i64.wrap e.fJa.e0))
def goes (e:aL) (l:List Pte):Bool:=l.any fun p=>(p.fEa == e.fAb.fEa) && (ap e.fAb.fCa p.fCa)
def own (e:aL):Bool:=((e.fAb.fBa == e.fBa) && (e.fAb.fPa == (i64.wrap e.fJa.e1))) && (bk e.fAb.fCa (i64.wrap e.fJa.e0))
def access (k:PK) (es:List aL) (s:dc) (e:aL):Bool :=
 if Word.check e.fJa s.fHa ≠ 0 then (ad.eqb e.fCb ⟨Word.check e.fJa s.fHa,0⟩) && (an.eqb e.fAb iP)
 else if e.fCb.fWa = 7 then (faults e (others k es e.fIa e.fBa (i64.wrap e.fJa.e1)) && (e.fCb.fVal == 0)) && (an.eqb e.fAb iP)
 else ((goes e (others k es e.fIa e.fBa (i64.wrap e.fJa.e1)) && own e) && (PK.touch k e.fAb.fEa e.fJa).1.2) && (ad.eqb (PK.touch k e.fAb.fEa e.fJa).1.1 e.fCb)
def well (s:dc) (e:aL):Bool:=(e.fCb.fWa == 0) && (Word.check e.fJa s.fHa == 0) && (e.fAb.fCa != 0)
def runFrom (es:List aL) (s:dc) (lin acc:Bool):PK->List Int->Int × Bool
 | _,[]=>(-1,true)
 | k,i::l =>
  if bQ (ev es i) = true then (if acc = true/\access k es s (ev es i) = false then (i,false) else runFrom es s lin acc (if well s (ev es i) = true then (PK.touch k (ev es i).fAb.fEa (ev es i).fJa).2 else k) l)
  else if lin = true/\((PK.do_ k (ev es i).fBa (ev es i).fJa).1.2 = false\/ad.eqb (PK.do_ k (ev es i).fBa (ev es i).fJa).1.1 (ev es i).fCb = false) then (i,false)
  else runFrom es s lin acc (PK.do_ k (ev es i).fBa (ev es i).fJa).2 l
def run (es:List aL) (s:dc) (lin acc:Bool):Int × Bool:=if Hist.may es s = true then runFrom es s lin acc (PK.new s) (Hist.order es) else (-1,false)
def linear (es:List aL) (s:dc):Int × Bool:=run es s true false
def accesses (es:List aL) (s:dc):Int × Bool:=run es s false true
def right (es:List aL) (s:dc):Bool:=(linear es s).2 && (accesses es s).2
theorem ev_nat {es:List aL} {n:Nat} (h:n < es.length):ev es n = es[n]:=by simp [ev,h]
theorem othersFrom_app (k:PK) (es:List aL) (env pg:Int) (i:Int):∀ l,fHb k es env pg (l++[i]) = fHb k es env pg l++(if takes (ev es i) = true then [(PK.pte (PK.do_ k (ev es i).fBa (ev es i).fJa).2 env pg).1] else [])
 | []=>by simp only [List.nil_append,fHb]
 | j::l=>by
  simp only [List.cons_append,fHb,othersFrom_app k es env pg i l];split <;> simp
theorem othersFrom_len (k:PK) (es:List aL) (env pg:Int):∀ l,(fHb k es env pg l).length <= l.length
 | []=>Nat.le_refl _
 | i::l=>by unfold fHb; have:=othersFrom_len k es env pg l; split <;> simp <;> omega
end fKa
abbrev jc (s:Sl) (z:dc) (pk:Ptr):List Value:=[sv s,.int .i64 z.fRa,.int .i64 z.fHa,.int .i64 z.fUa,pv pk]
theorem sp_judge_others (jb:Nat) (s:Sl) (z:dc) (pk:Ptr) (es:List aL) (k:PK) (a env pg:Int) (hb:es.length < 2 ^ 38) :
  Sp prog lq [pv (some (jb,0)),.int .i64 a,.int .i64 env,.int .i64 pg] qm [blk jb ch (jc s z pk),vE s es,aO pk k] (fun r=>ah [vG r (fKa.others k es a env pg),blk jb ch (jc s z pk),vE s es,aO pk k]):=by
 intro h s0;refine xA _ _ _ _ ?_;unfold pA;refine bn (aJ pk s0 (i:=0) rfl rfl rfl ?_);refine aW (su pk k env pg) (i:=2) rfl s0 fun r h1 hr s1=>?_;subst hr;refine db (τ:=Pte) [(PK.pte k env pg).1] (val:=fun x=>.agg x.C.toArray) (enc:=ak.C) el_Sapi_Pte iA (fun _=>rfl) s1 rfl rfl (by simp) fun v h2 s2=>?_;refine aJ s s2 (i:=1) rfl rfl rfl ?_;refine sM (sp_hist_Over s es a hb) (i:=2) rfl s2 fun r37 h3 s3=>?_;have hrl:=(aX (j:=0) s3 rfl).1;have hol:=Hist.placesFrom_len (fun e=>decide (e.fTa <= a) && (e.fIa == 0 || decide (e.fIa > a))) es 0;have hol':(Hist.over es a).length <= es.length:=hol;refine Lp.intro (fun (y:Sl × Int) h=>∃ n:Nat,y.2 = n/\n <= (Hist.over es a).length/\ah [vI r37 (Hist.over es a),vG y.1 ((PK.pte k env pg).1::fKa.fHb k es env pg ((Hist.over es a).take n)),blk jb ch (jc s z pk),vE s es,aO pk k] h) (fun (y:Sl × Int) _=>(Hist.over es a).length - y.2.toNat) ⟨0,rfl,zero_le _,s3⟩ ?_;rintro ⟨y,i⟩ h ⟨n,rfl,hn,s4⟩;unfold pI;refine ar (fun d=>?_) (fun d=>?_)
 ·have hlt:n < (Hist.over es a).length:=by rw [hrl] at d; have:=of_decide_eq_true d; simp at this; exact this
  have hw:i64.wrap ((n:Int) + 1) = ((n + 1:Nat):Int):=by rw [aE (by omega) (by omega)]; rfl
  have ht:(Hist.over es a).take (n + 1) = (Hist.over es a).take n++[(Hist.over es a)[n]]:=by simp
  have hin:=Hist.places_in (List.getElem_mem hlt);have hes:=(aX (j:=3) s4 rfl).1;obtain ⟨m,hm⟩:=Int.eq_ofNat_of_zero_le hin.1;have hml:m < es.length:=by omega
  have hev:fKa.ev es (Hist.over es a)[n] = es[m]:=by rw [hm,fKa.ev_nat hml]
  have happ:=fKa.othersFrom_app k es env pg (Hist.over es a)[n] ((Hist.over es a).take n);rw [hev] at happ;have hfl:=fKa.othersFrom_len k es env pg ((Hist.over es a).take n);simp at hfl;refine bE s4 (j:=0) rfl (by omega) (by show (n:Int) < _; omega) fun q hq=>?_;refine bK (j:=0) (i:=n) (k:=0) (Hist.over es a)[n] (bd _) s4 rfl hq (by simp) (al hlt) (by simp) ?_;rw [hm];refine aJ s s4 (i:=2) rfl rfl rfl ?_;refine bE s4 (j:=3) rfl (by omega) (by omega) fun q2 hq2=>?_;refine bK (j:=3) (i:=m) (k:=0) es[m] fZ s4 rfl hq2 rfl (al hml) (by simp) ?_;have j1:∀ b,b = fKa.takes es[m]->cZ env pg (jb,0) (fun s' h'=>(∃ n:Nat,s'.2 = n/\n <= (Hist.over es a).length/\ah [vI r37 (Hist.over es a),vG s'.1 ((PK.pte k env pg).1::fKa.fHb k es env pg ((Hist.over es a).take n)),blk jb ch (jc s z pk),vE s es,aO pk k] h')/\(Hist.over es a).length - s'.2.toNat < (Hist.over es a).length - (n:Int).toNat) (y,(n:Int)) es[m] b h:=by
   intro b hb2;unfold cZ;rw [hb2,hw];refine ar (fun d2=>?_) (fun d2=>?_)
   ·refine aJ pk s4 (i:=2) rfl rfl rfl ?_;refine sM (uY pk k) (i:=4) rfl s4 fun r66 h5 s5=>?_;refine aW (je r66 k es[m].fBa es[m].fJa) (i:=0) rfl s5 fun r h6 hr s6=>?_;refine aW (su r66 _ env pg) (i:=0) rfl s6 fun r h7 hr s7=>?_;subst hr;refine iX (τ:=Pte) (i:=2) (enc:=ak.C) (val:=fun x=>.agg x.C.toArray) el_Sapi_Pte iA pte_one (fun _=>rfl) (by omega) rfl rfl s7 rfl (by simp; omega) (by simp; omega) fun v h8 s8=>?_;refine ⟨⟨n + 1,rfl,hlt,?_⟩,by simp; omega⟩;rw [ht,happ,if_pos d2];exact aT (l:=[aO r66 _]) s8
   ·refine ⟨⟨n + 1,rfl,hlt,?_⟩,by simp; omega⟩;rw [ht,happ,if_neg (by rw [d2]; exact Bool.false_ne_true),List.append_nil];exact s4
  refine ar (fun c=>j1 _ (by unfold fKa.takes; rw [c]; rfl)) (fun c=>?_);refine ar (fun c2=>j1 _ (by unfold fKa.takes; rw [c,c2]; rfl)) (fun c2=>?_);refine ar (fun c3=>j1 _ (by unfold fKa.takes; rw [c,c2,c3]; rfl)) (fun c3=>j1 _ (by unfold fKa.takes; rw [c,c2,c3]; rfl))
 ·have:n = (Hist.over es a).length:=by rw [hrl] at d; have:=of_decide_eq_false d; simp at this; omega
  subst this;rw [List.take_length] at s4;exact aT (l:=[vI r37 (Hist.over es a)]) s4
theorem any_snoc {α:Type} (f:α->Bool) (l:List α) (x:α):(l++[x]).any f = (l.any f || f x):=by simp
theorem sp_judge_access (jb:Nat) (s:Sl) (z:dc) (pk:Ptr) (es:List aL) (k:PK) (e:aL) (hb:es.length < 2 ^ 38) :
  Sp prog lr [pv (some (jb,0)),.agg e.C.toArray] ai [blk jb ch (jc s z pk),vE s es,aO pk k] (fun r=>pa_ (r = fKa.access k es z e) [blk jb ch (jc s z pk),vE s es,aO pk k]):=by
 intro h s0;refine xB _ _ ?_;unfold pB;refine bn (aJ z.fHa s0 (i:=0) rfl rfl rfl ?_);refine ud (ir e.fJa z.fHa) s0 fun r h1 hr s1=>?_;subst hr;refine ar (fun d=>?_) (fun d=>?_)
 ·exact aw (by unfold fKa.access; rw [if_pos (by simpa using d)]) s1
 ·have d':¬ Word.check e.fJa z.fHa ≠ 0:=by simpa using d
  refine bG [0,0,0] (sp_judge_others jb s z pk es k e.fIa e.fBa (i64.wrap e.fJa.e1) hb) s1 rfl fun r50 h2 s2=>?_;have s3:=bT s2;have hrl:=(aX (j:=0) s3 rfl).1;have hol':(Hist.over es e.fIa).length <= es.length:=Hist.placesFrom_len _ es 0;have hfl:=fKa.othersFrom_len k es e.fBa (i64.wrap e.fJa.e1) (Hist.over es e.fIa);have hll:(fKa.others k es e.fIa e.fBa (i64.wrap e.fJa.e1)).length < 2 ^ 39:=by unfold fKa.others; simp; omega
  generalize hL:fKa.others k es e.fIa e.fBa (i64.wrap e.fJa.e1) = L at *
  refine Lp.intro (fun (y:Bool × Bool × Int) h=>∃ n:Nat,y.2.2 = n/\n <= L.length/\y.1 = fKa.faults e (L.take n)/\y.2.1 = fKa.goes e (L.take n)/\ah [vG r50 L,blk jb ch (jc s z pk),vE s es,aO pk k] h) (fun (y:Bool × Bool × Int) _=>L.length - y.2.2.toNat) ⟨0,rfl,zero_le _,rfl,rfl,s3⟩ ?_;rintro ⟨f,g,i⟩ h ⟨n,rfl,hn,hf,hg,s4⟩;simp only at hf hg;unfold pJ;refine ar (fun d2=>?_) (fun d2=>?_)
  ·have hlt:n < L.length:=by rw [hrl] at d2; have:=of_decide_eq_true d2; simp at this; exact this
   have hw:i64.wrap ((n:Int) + 1) = ((n + 1:Nat):Int):=by rw [aE (by omega) (by omega)]; rfl
   have ht:L.take (n + 1) = L.take n++[L[n]]:=by simp
   refine bE s4 (j:=0) rfl (by show (0:Int) <= n; omega) (by show (n:Int) < _; omega) fun q hq=>?_;refine bK (j:=0) (i:=n) (k:=0) L[n] iA s4 rfl hq rfl (al hlt) (by simp) ?_;rw [hw];refine ⟨⟨n + 1,rfl,hlt,?_,?_,s4⟩,by simp; omega⟩
   ·unfold fKa.faults; rw [ht,any_snoc]; show (f || _) = _; rw [hf]; rfl
   ·unfold fKa.goes; rw [ht,any_snoc]; show (g || _) = _; rw [hg]; rfl
  ·have:n = L.length:=by rw [hrl] at d2; have:=of_decide_eq_false d2; simp at this; omega
   subst this;rw [List.take_length] at hf hg;have s5:=aT (l:=[vG r50 L]) s4;refine ar (fun d3=>?_) (fun d3=>?_)
   ·refine aw ?_ s5;unfold fKa.access;rw [if_neg d',if_pos (by simpa using d3),hL,← hf]
   ·refine aJ pk s4 (i:=1) rfl rfl rfl ?_;refine sM (uY pk k) (i:=2) rfl s5 fun r104 h6 s6=>?_;refine aW (nU r104 k e.fAb.fEa e.fJa) (i:=0) rfl s6 fun r h7 hr s7=>?_;subst hr;refine aw ?_ (aT (l:=[aO r104 _]) s7);unfold fKa.access;rw [if_neg d',if_neg (by simpa using d3),hL,← hg]
    rfl
theorem sp_judge_well (jb:Nat) (s:Sl) (z:dc) (pk:Ptr) (e:aL) :
  Sp prog nk [pv (some (jb,0)),.agg e.C.toArray] ai [blk jb ch (jc s z pk)] (fun r=>pa_ (r = fKa.well z e) [blk jb ch (jc s z pk)]):=by
 intro h s0;refine sim_judge_judge_well _ _ ?_;unfold rZ;refine ar (fun d=>?_) (fun d=>?_)
 ·refine bn (aJ z.fHa s0 (i:=0) rfl rfl rfl ?_);refine ud (ir e.fJa z.fHa) s0 fun r h1 hr s1=>?_;subst hr;refine ar (fun d2=>?_) (fun d2=>?_)
  ·exact aw (by unfold fKa.well; rw [d,d2]; rfl) s1
  ·exact aw (by unfold fKa.well; rw [d,d2]; rfl) s1
 ·exact aw (by unfold fKa.well; rw [d]; rfl) s0
abbrev OrdOk (s:Sl) (es:List aL):Prop:=Sp prog lR [sv s] av [vE s es] (fun r=>ah [vI r (Hist.order es),vE s es])
theorem order_in {es:List aL} {x:Int} (h:x ∈ Hist.order es):0 <= x/\x < es.length:=Hist.places_in ((Hist.isort_perm _ _).subset h)
theorem order_len (es:List aL):(Hist.order es).length <= es.length:=by
 have h1:=(Hist.isort_perm (Hist.eff es) (Hist.effs es)).length_eq;have h2:=Hist.placesFrom_len (fun e=>decide (e.fIa > 0)) es 0;unfold Hist.order; rw [h1]; exact h2
theorem sp_judge_run (s:Sl) (es:List aL) (z:dc) (lin acc:Bool) (hz:PK.sized z = true) (hb:es.length < 2 ^ 38) (ho:Hist.Apart es->OrdOk s es) :
  Sp prog uP [sv s,.agg z.C.toArray,.bool lin,.bool acc] aR [vE s es] (fun r=>pa_ (r = fKa.run es z lin acc) [vE s es]):=by
 intro h s0;refine sim_judge_run _ _ _ _ ?_;unfold sh_judge_run;refine aW (sp_hist_May s es z hb) (i:=0) rfl s0 fun r h1 hr s1=>?_;subst hr;refine ar (fun d=>?_) (fun d=>?_)
 ·exact aw (by unfold fKa.run; rw [if_neg (by simpa using d)]) s1
 ·have d':Hist.may es z = true:=by simpa using d
  have er:fKa.run es z lin acc = fKa.runFrom es z lin acc (PK.new z) (Hist.order es):=if_pos d';rw [er];refine lW (sx z hz) s1 fun pk h2 s2=>?_;refine nP s2 fun b25 h3 s3=>?_;refine sM (ho (Hist.may_apart d')) (i:=2) rfl s3 fun r27 h4 s4=>?_;have hol:=order_len es;have hrl:=(aX (j:=0) s4 rfl).1;refine Lp.intro (fun (i:Int) h=>∃ (n:Nat) (k:PK),i = n/\n <= (Hist.order es).length/\fKa.runFrom es z lin acc k ((Hist.order es).drop n) = fKa.runFrom es z lin acc (PK.new z) (Hist.order es)/\ah [vI r27 (Hist.order es),blk b25 ch (jc s z pk),aO pk k,vE s es] h) (fun (i:Int) _=>(Hist.order es).length - i.toNat) ⟨0,_,rfl,zero_le _,rfl,s4⟩ ?_;rintro i h ⟨n,k,rfl,hn,he,s5⟩;have fin:∀ h,ah [vI r27 (Hist.order es),blk b25 ch (jc s z pk),aO pk k,vE s es] h->ah [vE s es] h:=fun h s=>aT (l:=[_,_,_]) s;unfold judge_run_l1;refine ar (fun d2=>?_) (fun d2=>?_)
  ·have hlt:n < (Hist.order es).length:=by rw [hrl] at d2; simpa using d2
   have hw:i64.wrap ((n:Int) + 1) = ((n + 1:Nat):Int):=by rw [aE (by omega) (by omega)]; rfl
   have hin:=order_in (List.getElem_mem hlt);have hes:=(aX (j:=3) s5 rfl).1;obtain ⟨m,hm⟩:=Int.eq_ofNat_of_zero_le hin.1;have hml:m < es.length:=by omega
   have hev:fKa.ev es (Hist.order es)[n] = es[m]:=by rw [hm,fKa.ev_nat hml]
   rw [List.drop_eq_getElem_cons hlt,fKa.runFrom,hev] at he;refine bE s5 (j:=0) rfl (by omega) (by omega) fun q hq=>?_;refine bK (j:=0) (i:=n) (k:=0) (Hist.order es)[n] (bd _) s5 rfl hq (by simp) (al hlt) (by simp) ?_;rw [hm];refine bE s5 (j:=3) rfl (by omega) (by omega) fun q2 hq2=>?_;refine bK (j:=3) (i:=m) (k:=0) es[m] fZ s5 rfl hq2 rfl (al hml) (by simp) ?_;have hmi:((m:Int),false) = ((Hist.order es)[n],false):=by rw [hm]
   refine ar (fun d3=>?_) (fun d3=>?_)
   ·rw [if_pos d3] at he;have j1:∀ h,(acc = true/\fKa.access k es z es[m] = false) = False->ah [vI r27 (Hist.order es),blk b25 ch (jc s z pk),aO pk k,vE s es] h->sI b25 (fun s' h'=>(∃ (n:Nat) (k:PK),s' = n/\n <= (Hist.order es).length/\fKa.runFrom es z lin acc k ((Hist.order es).drop n) = fKa.runFrom es z lin acc (PK.new z) (Hist.order es)/\ah [vI r27 (Hist.order es),blk b25 ch (jc s z pk),aO pk k,vE s es] h')/\(Hist.order es).length - s'.toNat < (Hist.order es).length - (n:Int).toNat) (n:Int) es[m] () h:=by
     intro h hno s6;rw [if_neg (by rw [hno]; exact not_false)] at he;unfold sI;refine aW (sp_judge_well b25 s z pk es[m]) (i:=1) rfl s6 fun r h7 hr s7=>?_;subst hr;rw [hw];refine ar (fun d4=>?_) (fun d4=>?_)
     ·rw [if_pos d4] at he;refine aJ pk s7 (i:=1) rfl rfl rfl ?_;refine aW (nU pk k es[m].fAb.fEa es[m].fJa) (i:=2) rfl s7 fun r h8 hr s8=>?_;exact ⟨⟨n + 1,_,rfl,hlt,he,s8⟩,by simp; omega⟩
     ·rw [if_neg (by rw [d4]; exact Bool.false_ne_true)] at he;exact ⟨⟨n + 1,_,rfl,hlt,he,s7⟩,by simp; omega⟩
    unfold sH;refine ar (fun d4=>?_) (fun d4=>?_)
    ·refine bG [1,2,1] (sp_judge_access b25 s z pk es k es[m] hb) s5 rfl fun r h6 s6=>?_;obtain ⟨hr,s7⟩:=aM.1 s6;subst hr;have s8:ah [vI r27 (Hist.order es),blk b25 ch (jc s z pk),aO pk k,vE s es] h6:=aA [3,0,1] s7 rfl;refine ar (fun d5=>?_) (fun d5=>?_)
     ·rw [if_pos ⟨d4,by simpa using d5⟩] at he;exact aw (by rw [← he,hm]) (fin _ s8)
     ·exact j1 h6 (by simp; intro _; simpa using d5) s8
    ·refine bB rfl ?_;exact j1 h (by rw [d4]; simp) s5
   ·rw [if_neg (by rw [d3]; exact Bool.false_ne_true)] at he;refine aJ pk s5 (i:=1) rfl rfl rfl ?_;refine aW (je pk k es[m].fBa es[m].fJa) (i:=2) rfl s5 fun r h6 hr s6=>?_;subst hr;refine ar (fun d4=>?_) (fun d4=>?_)
    ·have d4':lin = true/\((PK.do_ k es[m].fBa es[m].fJa).1.2 = false\/ad.eqb (PK.do_ k es[m].fBa es[m].fJa).1.1 es[m].fCb = false):=by simpa using d4
     rw [if_pos d4'] at he;exact aw (by rw [← he,hm]) (aT (l:=[_,_,_]) s6)
    ·have d4':¬ (lin = true/\((PK.do_ k es[m].fBa es[m].fJa).1.2 = false\/ad.eqb (PK.do_ k es[m].fBa es[m].fJa).1.1 es[m].fCb = false)):=by simpa using d4
     rw [if_neg d4'] at he;rw [hw];exact ⟨⟨n + 1,_,rfl,hlt,he,s6⟩,by simp; omega⟩
  ·have:n = (Hist.order es).length:=by rw [hrl] at d2; simp at d2; omega
   subst this;rw [List.drop_length] at he;exact aw he (fin h s5)
section
variable (s:Sl) (es:List aL) (z:dc) (hz:PK.sized z = true) (hb:es.length < 2 ^ 38) (ho:Hist.Apart es->OrdOk s es)
include hz hb ho
theorem sp_judge_Linear:Sp prog oF [sv s,.agg z.C.toArray] aR [vE s es] (fun r=>pa_ (r = fKa.linear es z) [vE s es]):=by
 intro h s0;refine sim_judge_Linear _ _ ?_;unfold sh_judge_Linear;exact aW (sp_judge_run s es z true false hz hb ho) (i:=0) rfl s0 fun r h1 hr s1=>aw hr s1
theorem sp_judge_Access:Sp prog oG [sv s,.agg z.C.toArray] aR [vE s es] (fun r=>pa_ (r = fKa.accesses es z) [vE s es]):=by
 intro h s0;refine sim_judge_Access _ _ ?_;unfold sh_judge_Access;exact aW (sp_judge_run s es z false true hz hb ho) (i:=0) rfl s0 fun r h1 hr s1=>aw hr s1
theorem sp_judge_Right:Sp prog vx [sv s,.agg z.C.toArray] ai [vE s es] (fun r=>pa_ (r = fKa.right es z) [vE s es]):=by
 intro h s0;refine sim_judge_Right _ _ ?_;unfold sh_judge_Right;refine aW (sp_judge_Linear s es z hz hb ho) (i:=0) rfl s0 fun r h1 hr s1=>?_;subst hr;exact aW (sp_judge_Access s es z hz hb ho) (i:=0) rfl s1 fun r h2 hr s2=>aw (by rw [hr]; rfl) s2
end
end
section
open Go Mb
structure Ev1 (k:KK) (e:aL):Prop where
 c0:0 <= e.fOa
 c1:e.fOa < k.p.s.fRa
 v0:0 <= e.fBa
 v1:e.fBa < k.p.s.fHa
 b0:1 <= e.fTa
 b1:e.fTa <= k.now
 st:(e.fIa = 0/\e.fXa = 0)\/(e.fTa < e.fIa/\e.fXa = e.fIa/\e.fIa <= k.now)
structure iy (k:KK):Prop where
 one:∀ (i:Nat) e,k.events[i]? = some e->Ev1 k e
 up:∀ (i j:Nat) d e,i < j->k.events[i]? = some d->k.events[j]? = some e->d.fTa < e.fTa
 ef:∀ (i j:Nat) d e,k.events[i]? = some d->k.events[j]? = some e->d.fIa > 0->d.fIa = e.fIa->i = j
 co:∀ (i j:Nat) d e,i < j->k.events[i]? = some d->k.events[j]? = some e->d.fOa = e.fOa->d.fXa > 0/\d.fXa < e.fTa
 call:∀ (c:Nat) x,k.calls[c]? = some (some x)->∃ n:Nat,x.fat = n/\∃ e,k.events[n]? = some e/\e.fOa = c/\e.fBa = x.fFa/\e.fJa = x.fc/\e.fIa = 0
 open_:∀ (i:Nat) e,k.events[i]? = some e->e.fIa = 0->∃ x,k.calls[e.fOa.toNat]? = some (some x)/\x.fat = i
theorem evinv_new (s:dc):iy (KK.new s):=by
 have hn:∀ i:Nat,(KK.new s).events[i]? = none:=fun i=>by simp [KK.new]
 refine ⟨fun i e h=>?_,fun i j d e _ h _=>?_,fun i j d e h _ _ _=>?_,fun i j d e _ h _ _=>?_,fun c x h=>absurd h (xP s c x),fun i e h _=>?_⟩ <;> (rw [hn] at h; cases h)
theorem Ev1.later {k k':KK} {e:aL} (h:Ev1 k e) (hs:k'.p.s = k.p.s) (hn:k.now <= k'.now):Ev1 k' e :=
 ⟨h.c0,by rw [hs]; exact h.c1,h.v0,by rw [hs]; exact h.v1,h.b0,by have:=h.b1; omega,by rcases h.st with a | a; exact .inl a; exact .inr ⟨a.1,a.2.1,by omega⟩⟩
theorem iy.same {k k':KK} (E:iy k) (he:k'.events = k.events) (hs:k'.p.s = k.p.s) (hn:k.now <= k'.now) (h1:∀ (c:Nat) x,k'.calls[c]? = some (some x)->∃ y,k.calls[c]? = some (some y)/\y.fat = x.fat/\y.fFa = x.fFa/\y.fc = x.fc) (h2:∀ (c:Nat) x,k.calls[c]? = some (some x)->∃ y,k'.calls[c]? = some (some y)/\y.fat = x.fat):iy k':=by
 refine ⟨fun i e h=>?_,fun i j d e hij h h'=>?_,fun i j d e h h'=>?_,fun i j d e hij h h'=>?_,fun c x hx=>?_,fun i e h h0=>?_⟩
 ·rw [he] at h; exact (E.one i e h).later hs hn
 ·rw [he] at h h'; exact E.up i j d e hij h h'
 ·rw [he] at h h'; exact E.ef i j d e h h'
 ·rw [he] at h h'; exact E.co i j d e hij h h'
 ·obtain ⟨y,hy,e1,e2,e3⟩:=h1 c x hx;obtain ⟨n,hn1,e,g1,g2,g3,g4,g5⟩:=E.call c y hy;exact ⟨n,e1 ▸ hn1,e,by rw [he]; exact g1,g2,e2 ▸ g3,e3 ▸ g4,g5⟩
 ·rw [he] at h;obtain ⟨x,hx,e1⟩:=E.open_ i e h h0;obtain ⟨y,hy,e2⟩:=h2 _ x hx;exact ⟨y,hy,e2.trans e1⟩
theorem iy.begin {k:KK} (E:iy k) (ok:KK.Ok k) (hn:k.now < 2 ^ 40) (core env:Int) (c:bv):iy (KK.begin_ k core env c).2:=by
 unfold KK.begin_;split
 ·exact E
 ·rename_i h;simp only [not_or,Bool.not_eq_false,Bool.not_eq_true] at h;obtain ⟨hi,hb,h0,h1⟩:=h;obtain ⟨n,rfl,hlt⟩:=jD hi;have hnone:k.calls[n]? = some none:=by
   cases hx:k.calls[n]? with
   | none=>rw [List.getElem?_eq_getElem hlt] at hx; cases hx
   | some o =>
    cases o with
    | none=>rfl
    | some x =>
     exfalso
     unfold KK.busy at hb;rw [hi] at hb;have:KK.call k n = some x:=by unfold KK.call; rw [toNat_natCast,List.getD_eq_getElem?_getD,hx]; rfl
     rw [this] at hb; cases hb
  have hw:=vJ ok.n0 hn;have hcl:=ok.cl;rw [hw];have get:∀ (i:Nat) e,(k.events++[KK.ev0 n env c (k.now + 1)])[i]? = some e->(i < k.events.length/\k.events[i]? = some e)\/(i = k.events.length/\e = KK.ev0 n env c (k.now + 1)):=by
   intro i e he;rcases Nat.lt_or_ge i k.events.length with h | h
   ·rw [List.getElem?_append_left h] at he; exact .inl ⟨h,he⟩
   ·rw [List.getElem?_append_right h] at he;by_cases e0:i - k.events.length = 0
    ·rw [e0] at he;exact .inr ⟨by omega,by simpa using he.symm⟩
    ·rw [List.getElem?_eq_none (by simp; omega)] at he; cases he
  have mk:∀ e,Ev1 k e->Ev1 { k with now:=k.now + 1,events:=k.events++[KK.ev0 n env c (k.now + 1)],calls:=k.calls.set n (some ⟨k.events.length,env,c,false,0⟩) } e:=fun e h=>h.later rfl (by show k.now <= k.now + 1; omega);have cget:∀ (a:Nat) x,(k.calls.set n (some (⟨k.events.length,env,c,false,0⟩:KC)))[a]? = some (some x)->(a = n/\x = ⟨k.events.length,env,c,false,0⟩)\/(a ≠ n/\k.calls[a]? = some (some x)):=by
   intro a x hx;rw [getElem?_set] at hx;by_cases e:n = a
   ·rw [if_pos e,if_pos hlt] at hx;exact .inl ⟨e.symm,by simpa using hx.symm⟩
   ·rw [if_neg e] at hx; exact .inr ⟨fun h=>e h.symm,hx⟩
  refine ⟨fun i e he=>?_,fun i j d e hij hd he=>?_,fun i j d e hd he hp heq=>?_,fun i j d e hij hd he hc=>?_,fun a x hx=>?_,fun i e he h00=>?_⟩
  ·rcases get i e he with ⟨_,h⟩ | ⟨_,rfl⟩
   ·exact mk e (E.one i e h)
   ·exact ⟨by show (0:Int) <= n; omega,by show (n:Int) < k.p.s.fRa; omega,by show 0 <= env; omega,by show env < k.p.s.fHa; omega,by show 1 <= k.now + 1; have:=ok.n0; omega,le_refl _,.inl ⟨rfl,rfl⟩⟩
  ·rcases get j e he with ⟨hj,h⟩ | ⟨hj,rfl⟩
   ·rcases get i d hd with ⟨_,h'⟩ | ⟨hi',_⟩
    ·exact E.up i j d e hij h' h
    ·omega
   ·rcases get i d hd with ⟨_,h'⟩ | ⟨hi',_⟩
    ·have:=(E.one i d h').b1;show d.fTa < k.now + 1; omega
    ·omega
  ·rcases get i d hd with ⟨_,h'⟩ | ⟨_,rfl⟩
   ·rcases get j e he with ⟨_,h⟩ | ⟨_,rfl⟩
    ·exact E.ef i j d e h' h hp heq
    ·have:(KK.ev0 n env c (k.now + 1)).fIa = 0:=rfl;omega
   ·have:(KK.ev0 n env c (k.now + 1)).fIa = 0:=rfl;omega
  ·rcases get j e he with ⟨hj,h⟩ | ⟨hj,rfl⟩
   ·rcases get i d hd with ⟨_,h'⟩ | ⟨hi',_⟩
    ·exact E.co i j d e hij h' h hc
    ·omega
   ·rcases get i d hd with ⟨_,h'⟩ | ⟨hi',_⟩
    ·have o:=E.one i d h';have hcc:d.fOa = n:=hc;have hb1:=o.b1;rcases o.st with s1 | s1
     ·exfalso
      obtain ⟨x,hx,_⟩:=E.open_ i d h' s1.1;rw [hcc,toNat_natCast,hnone] at hx;cases hx
     ·have:=o.b0;exact ⟨by omega,by show d.fXa < k.now + 1; omega⟩
    ·omega
  ·rcases cget a x hx with ⟨rfl,rfl⟩ | ⟨_,h⟩
   ·exact ⟨k.events.length,rfl,KK.ev0 a env c (k.now + 1),by simp,rfl,rfl,rfl,rfl⟩
   ·obtain ⟨m,h2,e,g1,g2⟩:=E.call a x h;refine ⟨m,h2,e,?_,g2⟩;show (k.events++[_])[m]? = _;rw [List.getElem?_append_left (List.getElem?_eq_some_iff.1 g1).1]; exact g1
  ·rcases get i e he with ⟨_,h⟩ | ⟨hi',rfl⟩
   ·obtain ⟨x,hx,e1⟩:=E.open_ i e h h00;refine ⟨x,?_,e1⟩;show (k.calls.set n _)[e.fOa.toNat]? = _;rw [getElem?_set,if_neg]
    ·exact hx
    ·rintro e2;rw [← e2,hnone] at hx; cases hx
   ·refine ⟨⟨k.events.length,env,c,false,0⟩,?_,by rw [hi']⟩;show (k.calls.set n _)[(n:Int).toNat]? = _;simp [hlt]
theorem iy.ends {k:KK} (E:iy k) {c:Nat} {x:KC} (hx:k.calls[c]? = some (some x)) (hlate:∀ (i:Nat) e,k.events[i]? = some e->e.fTa < k.now/\e.fIa < k.now) (a:bY) (l:io):iy (KK.ends k c x a l):=by
 obtain ⟨n,hn,e0,g1,g2,g3,g4,g5⟩:=E.call c x hx;have hlt:=(List.getElem?_eq_some_iff.1 g1).1;have hev:(KK.ends k c x a l).events = k.events.set n (KK.evend e0 k.now a l):=by
  unfold KK.ends;rw [hn];simp only [toNat_natCast,List.getD_eq_getElem?_getD,g1,Option.getD_some]
 have get:∀ (i:Nat) e,(k.events.set n (KK.evend e0 k.now a l))[i]? = some e->(i ≠ n/\k.events[i]? = some e)\/(i = n/\e = KK.evend e0 k.now a l):=by
  intro i e he;rw [getElem?_set] at he;by_cases h:n = i
  ·rw [if_pos h,if_pos hlt] at he;exact .inr ⟨h.symm,by simpa using he.symm⟩
  ·rw [if_neg h] at he; exact .inl ⟨fun h'=>h h'.symm,he⟩
 have o0:=E.one n e0 g1;have l0:=hlate n e0 g1;have cls:(KK.ends k c x a l).calls = k.calls.set c none:=by simp [KK.ends]
 have cget:∀ (b:Nat) y,(k.calls.set c none)[b]? = some (some y)->b ≠ c/\k.calls[b]? = some (some y):=by
  intro b y hy;rw [getElem?_set] at hy;by_cases e:c = b
  ·rw [if_pos e] at hy;split at hy
   ·cases hy
   ·cases hy
  ·rw [if_neg e] at hy; exact ⟨fun h=>e h.symm,hy⟩
 have b0:(KK.evend e0 k.now a l).fTa = e0.fTa:=rfl;have b1:(KK.evend e0 k.now a l).fOa = e0.fOa:=rfl;have b2:(KK.evend e0 k.now a l).fIa = k.now:=rfl;have b3:(KK.evend e0 k.now a l).fXa = k.now:=rfl;have b4:(KK.evend e0 k.now a l).fBa = e0.fBa:=rfl;refine ⟨fun i e he=>?_,fun i j d e hij hd he=>?_,fun i j d e hd he hp heq=>?_,fun i j d e hij hd he hc=>?_,fun b y hy=>?_,fun i e he h00=>?_⟩
 ·rw [hev] at he;rcases get i e he with ⟨_,h⟩ | ⟨_,rfl⟩
  ·exact (E.one i e h).later rfl (le_refl _)
  ·exact ⟨o0.c0,o0.c1,o0.v0,o0.v1,o0.b0,o0.b1,.inr ⟨l0.1,rfl,le_refl _⟩⟩
 ·rw [hev] at hd he;have hd':∃ d',k.events[i]? = some d'/\d'.fTa = d.fTa:=by
   rcases get i d hd with ⟨_,h⟩ | ⟨rfl,rfl⟩
   ·exact ⟨d,h,rfl⟩
   ·exact ⟨e0,g1,rfl⟩
  have he':∃ e',k.events[j]? = some e'/\e'.fTa = e.fTa:=by
   rcases get j e he with ⟨_,h⟩ | ⟨rfl,rfl⟩
   ·exact ⟨e,h,rfl⟩
   ·exact ⟨e0,g1,rfl⟩
  obtain ⟨d',h1,h2⟩:=hd';obtain ⟨e',h3,h4⟩:=he';rw [← h2,← h4]; exact E.up i j d' e' hij h1 h3
 ·rw [hev] at hd he;rcases get i d hd with ⟨_,h⟩ | ⟨rfl,rfl⟩
  ·rcases get j e he with ⟨_,h'⟩ | ⟨rfl,rfl⟩
   ·exact E.ef i j d e h h' hp heq
   ·have:=(hlate i d h).2;rw [heq,b2] at this; omega
  ·rcases get j e he with ⟨_,h'⟩ | ⟨rfl,rfl⟩
   ·have:=(hlate j e h').2;rw [← heq,b2] at this; omega
   ·rfl
 ·rw [hev] at hd he;rcases get i d hd with ⟨_,h⟩ | ⟨rfl,rfl⟩
  ·rcases get j e he with ⟨_,h'⟩ | ⟨rfl,rfl⟩
   ·exact E.co i j d e hij h h' hc
   ·exact E.co i j d e0 hij h g1 hc
  ·rcases get j e he with ⟨_,h'⟩ | ⟨rfl,rfl⟩
   ·have:=E.co i j e0 e hij g1 h' hc;rcases o0.st with s1 | s1
    ·omega
    ·rw [g5] at s1; have:=o0.b0; omega
   ·omega
 ·rw [cls] at hy;obtain ⟨hbc,hy⟩:=cget b y hy;obtain ⟨m,h2,e,f1,f2,f3⟩:=E.call b y hy;refine ⟨m,h2,e,?_,f2,f3⟩;rw [hev,getElem?_set,if_neg]
  ·exact f1
  ·rintro rfl;rw [g1] at f1;cases f1;omega
 ·rw [hev] at he;rcases get i e he with ⟨hne,h⟩ | ⟨_,rfl⟩
  ·obtain ⟨y,hy,e1⟩:=E.open_ i e h h00;refine ⟨y,?_,e1⟩;rw [cls,getElem?_set,if_neg]
   ·exact hy
   ·intro e2;rw [← e2,hx] at hy;cases hy;rw [hn] at e1;exact hne (by omega)
  ·have:=o0.b0;rw [b2] at h00; omega
end
section
open Go Mb
structure KZ where
 b:Nat
 pp:Ptr
 ts:Sl
 tp:List Ptr
 pm:Ptr
 pe:Ptr
 cs:Sl
 cp:List Ptr
 es:Sl
abbrev kcl (z:KZ) (k:KK):List Value:=[pv z.pp,.int .i64 k.p.s.fHa,sv z.ts,pv z.pm,pv z.pe,sv z.cs,sv z.es,.int .i64 k.now]
abbrev ma (z:KZ) (k:KK):List As:=[blk z.b bj (kcl z k),aO z.pp k.p,vQ tb z.ts z.tp,all dZ z.tp k.fMa,iv z.pm k.fLa,dU z.pe k.fGa,vQ eq z.cs z.cp,all gQ z.cp k.calls,vE z.es k.events]
structure KZ.Ok (z:KZ) (k:KK):Prop where
 t:z.tp.length = k.fMa.length
 c:z.cp.length = k.calls.length
def bu (x:Ptr) (k:KK):As:=fun h=>∃ z:KZ,(x = some (z.b,0)/\KZ.Ok z k/\KK.Ok k)/\ah (ma z k) h
theorem qw {x:Ptr} {k:KK} {l:List As} {h:Hp} (s0:ah (bu x k::l) h):∃ z:KZ,x = some (z.b,0)/\KZ.Ok z k/\KK.Ok k/\ah (ma z k++l) h:=by
 obtain ⟨z,⟨hx,h1,ok⟩,st⟩:=op_ s0;exact ⟨z,hx,h1,ok,st⟩
theorem lV {z:KZ} {k:KK} {l:List As} {h:Hp} (h1:KZ.Ok z k) (ok:KK.Ok k) (st:ah (ma z k++l) h):ah (bu (some (z.b,0)) k::l) h :=
 cl_ (m:=fun z:KZ=>ma z k) z ⟨rfl,h1,ok⟩ st
theorem kk_len {k:KK} (ok:KK.Ok k):k.fMa.length = k.calls.length/\k.fLa.length = k.calls.length/\k.fGa.2.length = k.calls.length/\1 <= k.calls.length/\k.calls.length <= 8:=by
 have h1:=ok.tl; have h2:=ok.bl; have h3:=ok.el; have h4:=ok.cl; have h5:=cQ.1 ok.p.sz;omega
theorem is_nat {k:KK} {c:Int} (h:KK.is k c = true):∃ n:Nat,c = n/\n < k.calls.length:=by
 have:=of_decide_eq_true (show decide (0 <= c/\c < (k.calls.length:Int)) = true from h);exact ⟨c.toNat,by omega,by omega⟩
theorem call_nat {k:KK} {n:Nat} (h:n < k.calls.length):KK.call k n = k.calls[n]:=by simp [KK.call,h]
theorem buf_nat {k:KK} {n:Nat} (h:n < k.fMa.length):KK.buf k n = k.fMa[n]:=by simp [KK.buf,h]
theorem pT (x:Ptr) (k:KK) (c:Int):Sp prog fj [pv x,.int .i64 c] ai [bu x k] (fun r=>pa_ (r = KK.is k c) [bu x k]):=by
 intro h s0;obtain ⟨z,rfl,zo,ok,st⟩:=qw s0;have hcs:=(aX (j:=6) st rfl).1;refine sim_kern_Kern_is _ _ ?_;unfold sh_kern_Kern_is;refine ar (fun d=>?_) (fun d=>?_)
 ·have d':0 <= c:=by simpa using d
  refine bn (aJ z.cs st (i:=0) rfl rfl rfl ?_);exact aw (by rw [hcs,zo.c]; simp [KK.is,d']) s0
 ·have d':¬ 0 <= c:=by simpa using d
  exact aw (by simp [KK.is]; intro h; exact absurd h d') s0
theorem nV (x:Ptr) (k:KK) (c:Int):Sp prog eU [pv x,.int .i64 c] ai [bu x k] (fun r=>pa_ (r = KK.busy k c) [bu x k]):=by
 intro h s0;refine sim_kern_Kern_Busy _ _ ?_;unfold uC;refine aW (pT x k c) (i:=0) rfl s0 fun r h1 hr s1=>?_;subst hr;refine ar (fun d=>?_) (fun d=>?_)
 ·obtain ⟨n,rfl,hn⟩:=is_nat d;obtain ⟨z,rfl,zo,ok,st⟩:=qw s1;have hcs:=(aX (j:=6) st rfl).1;have hn':n < z.cp.length:=by rw [zo.c]; exact hn
  refine bn (aJ z.cs st (i:=0) rfl rfl rfl ?_);refine bE st (j:=6) rfl (by omega) (by omega) fun q hq=>?_;refine bK (j:=6) (i:=n) (k:=0) z.cp[n] fu st rfl hq (by simp) (al hn') (by simp) ?_;refine aw ?_ s1;unfold KK.busy;rw [d,call_nat hn];cases hc:k.calls[n] with
  | none =>
   have:=call_none (j:=7) st rfl (al hn') (by rw [al hn,hc]);rw [this]; rfl
  | some y =>
   obtain ⟨b,hp,_⟩:=wX (j:=7) st rfl (al hn') (by rw [al hn,hc]);rw [hp]; rfl
 ·exact aw (by unfold KK.busy; rw [d]; rfl) s1
theorem sp_kern_Begin (x:Ptr) (k:KK) (core env:Int) (c:bv) (hn:k.now < 2 ^ 38):Sp prog kC [pv x,.int .i64 core,.int .i64 env,.agg c.C.toArray] ai [bu x k] (fun r=>pa_ (r = (KK.begin_ k core env c).1) [bu x (KK.begin_ k core env c).2]):=by
 intro h s0;refine sim_kern_Kern_Begin _ _ _ _ ?_;unfold tt;have no:(KK.is k core = false\/KK.busy k core = true\/env < 0\/env >= k.p.s.fHa)->KK.begin_ k core env c = (false,k):=fun hh=>if_pos hh;refine aW (pT x k core) (i:=0) rfl s0 fun r h1 hr s1=>?_;subst hr;refine ar (fun d=>?_) (fun d=>?_)
 ·have d':KK.is k core = true:=by simpa using d
  refine aW (nV x k core) (i:=0) rfl s1 fun r h2 hr s2=>?_;subst hr;refine ar (fun d2=>?_) (fun d2=>?_)
  ·have d2':KK.busy k core = false/\¬ env < 0:=by simpa using d2
   obtain ⟨z,rfl,zo,ok,st⟩:=qw s2;refine bn (aJ k.p.s.fHa st (i:=0) rfl rfl rfl ?_);refine ar (fun d3=>?_) (fun d3=>?_)
   ·rw [no (.inr (.inr (.inr (by simpa using d3))))];exact aw rfl s2
   ·have d3':¬ env >= k.p.s.fHa:=by simpa using d3
    have ok2:=kok_begin ok (by omega) core env c;have e1:KK.begin_ k core env c = (true,{ k with now:=i64.wrap (k.now + 1),events:=k.events++[KK.ev0 core env c (i64.wrap (k.now + 1))],calls:=k.calls.set core.toNat (some ⟨k.events.length,env,c,false,0⟩) }):=by
     unfold KK.begin_; rw [if_neg]; simp [d',d2'.1]; omega
    rw [e1] at ok2 ⊢;obtain ⟨n,rfl,hcn⟩:=is_nat d';have hn':n < z.cp.length:=by rw [zo.c]; exact hcn
    have hcs:=(aX (j:=6) st rfl).1;have hel:=ok.evn;refine aJ k.now st (i:=0) rfl rfl rfl ?_;refine mX (i:=0) st rfl (le_of_ble_eq_true rfl) fun h3 s3=>?_;refine aJ (i64.wrap (k.now + 1)) s3 (i:=0) rfl rfl rfl ?_;refine aJ z.es s3 (i:=0) rfl rfl rfl ?_;refine iX (τ:=aL) (i:=8) (enc:=ax.C) (val:=fun x=>.agg x.C.toArray) (x:=KK.ev0 n env c (i64.wrap (k.now + 1))) qy fZ ev_one (fun _=>rfl) (by omega) rfl rfl s3 rfl (by omega) (by omega) fun v h4 s4=>?_;refine mX (i:=0) s4 rfl (le_of_ble_eq_true rfl) fun h5 s5=>?_;refine aJ v s5 (i:=0) rfl rfl rfl ?_;have hvl:=(aX (j:=8) s5 rfl).1;refine aJ z.cs s5 (i:=0) rfl rfl rfl ?_;have hw:i64.wrap ((v.len:Int) - 1) = k.events.length:=by rw [hvl]; rw [aE] <;> simp <;> omega
    rw [hw];refine nP s5 fun b68 h6 s6=>?_;refine bE s6 (j:=7) rfl (by omega) (by omega) fun q hq=>?_;refine tZ (j:=7) (i:=n) (k:=0) (some (b68,0):Ptr) fu s6 rfl hq (by simp) (al hn') (by simp) rfl fun h7 s7=>?_;have s8:=aA [8] s7 rfl;have s10:=all_but (al hn') (al hcn) s8;have s12:=call_mk (y:=⟨k.events.length,env,c,false,0⟩) (aA [1,0] s10 rfl);have s14:=all_in2 (A:=gQ) hcn zo.c s12;refine aw rfl (lV (z:={ z with es:=v,cp:=z.cp.set n (some (b68,0)) }) ⟨zo.t,by simpa using zo.c⟩ ok2 (aA [1,1,1,1,1,1,1,0,0] s14 rfl))
  ·rw [no]
   ·exact aw rfl s2
   ·simp at d2;cases hb:KK.busy k core with
    | true=>exact .inr (.inl rfl)
    | false=>exact .inr (.inr (.inl (d2 hb)))
 ·rw [no (.inl (by simpa using d))];exact aw rfl s1
theorem cleans_drop (k:KK) (ls:List io) (n:Nat) (h:n < ls.length) (b:Buf):KK.cleans k (ls.drop n) b = if KK.stale k ls[n] = true then KK.cleans k (ls.drop (n + 1)) (Tlb.flush b ls[n].fBa ls[n].fPa).2 else KK.cleans k (ls.drop (n + 1)) b:=by
 rw [List.drop_eq_getElem_cons h,KK.cleans]
theorem sp_kern_clean (z:KZ) (k:KK) (c:Nat) (hc:c < k.calls.length) (zo:KZ.Ok z k) (ok:KK.Ok k) :
  Sp prog kB [pv (some (z.b,0)),.int .i64 c] R_ (ma z k) (fun _=>ah (ma z (KK.clean k c))):=by
 intro h s0;obtain ⟨l1,l2,l3,l4,l5⟩:=kk_len ok;have hct:c < k.fMa.length:=by omega
 have hcp:c < z.tp.length:=by rw [zo.t]; exact hct
 have hts:=(aX (j:=2) s0 rfl).1;refine sim_kern_Kern_clean _ _ ?_;unfold tm;refine bn (aJ z.ts s0 (i:=0) rfl rfl rfl ?_);refine bE s0 (j:=2) rfl (by omega) (by omega) fun q hq=>?_;refine bK (j:=2) (i:=c) (k:=0) z.tp[c] fu s0 rfl hq (by simp) (al hcp) (by simp) ?_;have s1:=gJ (al hcp) (al hct) (aA [3] s0 rfl);refine sM (sp_tlb_Lines z.tp[c] k.fMa[c]) (i:=0) rfl s1 fun r h2 s2=>?_;have s3:=rv (al hcp) (al hct) zo.t (aA [1,1] s2 rfl);have s4:ah (vL r (Tlb.lines k.fMa[c])::ma z k) h2:=aA [1,1,1,1,0] s3 rfl;have hll:(Tlb.lines k.fMa[c]).length = 8:=by
  obtain ⟨_,_,h8,_⟩:=mW s1;unfold Tlb.lines; simpa using h8
 have hrl:=(aX (j:=0) s4 rfl).1;have hbuf:KK.buf k c = k.fMa[c]:=buf_nat hct;have same:k.fMa.set c k.fMa[c] = k.fMa:=hG (al hct);refine Lp.intro (fun (i:Int) h=>∃ (n:Nat) (b:Buf),i = n/\n <= 8/\KK.cleans k ((Tlb.lines k.fMa[c]).drop n) b = KK.cleans k (Tlb.lines k.fMa[c]) k.fMa[c]/\ah (vL r (Tlb.lines k.fMa[c])::ma z { k with fMa:=k.fMa.set c b }) h) (fun (i:Int) _=>8 - i.toNat) ⟨0,k.fMa[c],rfl,zero_le _,rfl,by rw [same]; exact s4⟩ ?_;rintro i h ⟨n,b,rfl,hn,he,s5⟩;unfold tN;refine ar (fun d=>?_) (fun d=>?_)
 ·have hlt:n < (Tlb.lines k.fMa[c]).length:=by rw [hrl] at d; simpa using d
  have hw:i64.wrap ((n:Int) + 1) = ((n + 1:Nat):Int):=by rw [aE (by omega) (by omega)]; rfl
  rw [cleans_drop k _ n hlt] at he;refine bE s5 (j:=0) rfl (by omega) (by omega) fun q2 hq2=>?_;refine bK (j:=0) (i:=n) (k:=0) (Tlb.lines k.fMa[c])[n] line_len s5 rfl hq2 (by simp) (al hlt) (by simp) ?_;have hcb:c < (k.fMa.set c b).length:=by simpa using hct
  have hgb:(k.fMa.set c b)[c] = b:=by simp
  have j1:∀ (o:Bool × Pte) (h:Hp),((decide ((Tlb.lines k.fMa[c])[n].fBa >= 0)) && (((!o.1) || (o.2.fEa != (Tlb.lines k.fMa[c])[n].fEa)) || (!(ap (Tlb.lines k.fMa[c])[n].fCa o.2.fCa)))) = KK.stale k (Tlb.lines k.fMa[c])[n]->ah (vL r (Tlb.lines k.fMa[c])::ma z { k with fMa:=k.fMa.set c b }) h ->
    gB c (z.b,0) (fun s' h'=>(∃ (n:Nat) (b:Buf),s' = n/\n <= 8/\KK.cleans k ((Tlb.lines k.fMa[c]).drop n) b = KK.cleans k (Tlb.lines k.fMa[c]) k.fMa[c]/\ah (vL r (Tlb.lines k.fMa[c])::ma z { k with fMa:=k.fMa.set c b }) h')/\8 - s'.toNat < 8 - (n:Int).toNat) n (Tlb.lines k.fMa[c])[n] o h:=by
   intro o h hs s6;unfold gB;rw [hs,hw];refine ar (fun d2=>?_) (fun d2=>?_)
   ·rw [if_pos d2] at he;refine aJ z.ts s6 (i:=1) rfl rfl rfl ?_;refine bE s6 (j:=3) rfl (by omega) (by omega) fun q3 hq3=>?_;refine bK (j:=3) (i:=c) (k:=0) z.tp[c] fu s6 rfl hq3 (by simp) (al hcp) (by simp) ?_;have s7:=gJ (al hcp) (al hcb) (aA [4] s6 rfl);rw [hgb] at s7;refine aW (sp_tlb_Flush z.tp[c] b _ _) (i:=0) rfl s7 fun r h8 hr s8=>?_;have s9:=vF (al hcp) hcb (by simpa using zo.t) s8;rw [set_set] at s9;exact ⟨⟨n + 1,_,rfl,by omega,he,aA [1,1,1,1] s9 rfl⟩,by simp; omega⟩
   ·rw [if_neg (by rw [d2]; exact Bool.false_ne_true)] at he;exact ⟨⟨n + 1,b,rfl,by omega,he,s6⟩,by simp; omega⟩
  refine ar (fun d2=>?_) (fun d2=>?_)
  ·have d2':0 <= (Tlb.lines k.fMa[c])[n].fBa:=by simpa using d2
   refine bG [1,1,5,5] (sp_kern_seen z.b z.pp (kcl z k) k.p z.cs z.cp k.calls (Tlb.lines k.fMa[c])[n].fBa (Tlb.lines k.fMa[c])[n].fPa rfl rfl zo.c l5) s5 rfl fun r h6 s6=>?_;obtain ⟨rfl,s7⟩:=aM.1 s6;refine j1 _ _ ?_ (aA [4,0,0,2,2,2,2,0,0] s7 rfl);unfold KK.stale KK.seen
   rfl
  ·have d2':¬ 0 <= (Tlb.lines k.fMa[c])[n].fBa:=by simpa using d2
   refine j1 _ _ ?_ s5;unfold KK.stale;rw [d2,Bool.false_and,Bool.false_and]
 ·have:n = 8:=by rw [hrl] at d; simp at d; omega
  subst this;rw [← hll,List.drop_length] at he;have e1:KK.clean k c = { k with fMa:=k.fMa.set c b }:=by
   unfold KK.clean;rw [hbuf,← he,toNat_natCast]; rfl
  rw [e1];exact aT (l:=[vL r (Tlb.lines k.fMa[c])]) s5
theorem sp_kern_ends (z:KZ) (k:KK) (c:Nat) (x:KC) (a:bY) (l:io) (hc:c < k.calls.length) (hx:k.calls[c]? = some (some x)) (zo:KZ.Ok z k) (ok:KK.Ok k) :
  Sp prog lO [pv (some (z.b,0)),.int .i64 c,.agg a.C.toArray,.agg l.C.toArray] R_ (ma z k) (fun _=>ah [bu (some (z.b,0)) (KK.ends k c x a l)]):=by
 intro h s0;have hcp:c < z.cp.length:=by rw [zo.c]; exact hc
 have hcs:=(aX (j:=6) s0 rfl).1;have hes:=(aX (j:=8) s0 rfl).1;obtain ⟨xb,hp,_⟩:=wX (j:=7) s0 rfl (al hcp) hx;have hcpx:z.cp[c]? = some (some (xb,0)):=by rw [al hcp,hp]
 have hcok:=ok.cs x (List.mem_of_getElem? hx);obtain ⟨i,hi⟩:=Int.eq_ofNat_of_zero_le hcok.1;have hil:i < k.events.length:=by omega
 refine sim_kern_Kern_ends _ _ _ _ ?_;unfold uy;refine bn (aJ z.es s0 (i:=0) rfl rfl rfl ?_);refine aJ z.cs s0 (i:=0) rfl rfl rfl ?_;refine bE s0 (j:=6) rfl (by omega) (by omega) fun q hq=>?_;refine bK (j:=6) (i:=c) (k:=0) z.cp[c] fu s0 rfl hq (by simp) (al hcp) (by simp) ?_;rw [hp];refine bn (ld_c1 (j:=7) x.fat s0 rfl hcpx hx rfl rfl ?_);rw [hi];refine bE s0 (j:=8) rfl (by omega) (by omega) fun q2 hq2=>?_;refine aJ k.now s0 (i:=0) rfl rfl rfl ?_;refine aJ k.now s0 (i:=0) rfl rfl rfl ?_;refine tZ (j:=8) (i:=i) (k:=8) { k.events[i] with fIa:=k.now } fZ s0 rfl hq2 rfl (al hil) (by simp) rfl fun h1 s1=>?_;have e1:(k.events.set i { k.events[i] with fIa:=k.now })[i]? = some { k.events[i] with fIa:=k.now }:=by simp [hil]
 refine tZ (j:=8) (i:=i) (k:=9) { k.events[i] with fIa:=k.now,fXa:=k.now } fZ s1 rfl hq2 rfl e1 (by simp) rfl fun h2 s2=>?_;simp only [set_set] at s2;have e2:(k.events.set i { k.events[i] with fIa:=k.now,fXa:=k.now })[i]? = some { k.events[i] with fIa:=k.now,fXa:=k.now }:=by simp [hil]
 refine tZ (j:=8) (i:=i) (k:=10) { k.events[i] with fIa:=k.now,fXa:=k.now,fCb:=a } fZ s2 rfl hq2 rfl e2 (by simp [ad.C]) rfl fun h3 s3=>?_;simp only [set_set] at s3;have e3:(k.events.set i { k.events[i] with fIa:=k.now,fXa:=k.now,fCb:=a })[i]? = some { k.events[i] with fIa:=k.now,fXa:=k.now,fCb:=a }:=by simp [hil]
 refine tZ (j:=8) (i:=i) (k:=12) (KK.evend k.events[i] k.now a l) fZ s3 rfl hq2 rfl e3 (by simp [an.C]) rfl fun h4 s4=>?_;simp only [set_set] at s4;refine aJ z.cs s4 (i:=0) rfl rfl rfl ?_;refine bE s4 (j:=6) rfl (by omega) (by omega) fun q5 hq5=>?_;refine tZ (j:=6) (i:=c) (k:=0) (none:Ptr) fu s4 rfl hq5 (by simp) (al hcp) (by simp) rfl fun h5 s5=>?_;have s7:=all_but hcpx hx (aA [7] s5 rfl);have s8:=star_cons (A:=gQ none none) (fun _=>rfl) s7;have s9:=all_in2 (A:=gQ) hc zo.c s8;have hge:k.events.getD i (KK.ev0 0 0 ⟨0,0,0,0,0⟩ 0) = k.events[i]:=by simp [hil]
 have e4:KK.ends k c x a l = { k with events:=k.events.set i (KK.evend k.events[i] k.now a l),calls:=k.calls.set c none }:=by
  unfold KK.ends; rw [hi,toNat_natCast,toNat_natCast,hge]
 have ok2:=kok_ends ok c x a l;rw [e4] at ok2 ⊢;refine lV (z:={ z with cp:=z.cp.set c none }) ⟨zo.t,by simpa using zo.c⟩ ok2 (aA [1,1,1,1,1,1,1,0,0] s9 rfl)
end
section
open Go Mb
theorem five {x:KC}:∀ (i:Nat) (v:Value),(aa.C x.fc)[i]? = some v->x.C[2 + i]? = some v:=by
 intro j v hv;have:j < 5:=(List.getElem?_eq_some_iff.1 hv).1
 match j,this with
 | 0,_=>exact hv
 | 1,_=>exact hv
 | 2,_=>exact hv
 | 3,_=>exact hv
 | 4,_=>exact hv
theorem sp_kern_access (z:KZ) (k:KK) (c xb:Nat) (x:KC) (hc:c < k.calls.length) (hx:k.calls[c]? = some (some x)) (hp:z.cp[c]? = some (some (xb,0))) (zo:KZ.Ok z k) (ok:KK.Ok k) :
  Sp prog nj [pv (some (z.b,0)),.int .i64 c,pv (some (xb,0))] dH (ma z k) (fun r=>pa_ (r = (KK.access k c x).1) (ma z (KK.access k c x).2)):=by
 intro h s0;obtain ⟨l1,l2,l3,l4,l5⟩:=kk_len ok;have hct:c < k.fMa.length:=by omega
 have hcp:c < z.tp.length:=by rw [zo.t]; exact hct
 have hbuf:KK.buf k c = k.fMa[c]:=buf_nat hct;refine sim_kern_Kern_access _ _ _ ?_;unfold rX;refine bn (bn ?_);refine ld_c (j:=7) x.fc s0 rfl hp hx five ?_;refine aJ k.p.s.fHa s0 (i:=0) rfl rfl rfl ?_;refine ud (ir x.fc _) s0 fun r h1 hr s1=>?_;subst hr;refine ar (fun d=>?_) (fun d=>?_)
 ·have e1:KK.access k c x = ((⟨Word.check x.fc k.p.s.fHa,0⟩,iP),k):=if_pos (by simpa using d);rw [e1]; exact aw rfl s1
 ·have d':¬ Word.check x.fc k.p.s.fHa ≠ 0:=by simpa using d
  refine ld_c1 (j:=7) x.fc.e1 s1 rfl hp hx rfl rfl ?_;refine lW nT s1 fun r37 h2 s2=>?_;refine ld_c1 (j:=8) x.fFa s2 rfl hp hx rfl rfl ?_;refine bG [1,1,5,5] (sp_kern_seen z.b z.pp (kcl z k) k.p z.cs z.cp k.calls x.fFa (i64.wrap x.fc.e1) rfl rfl zo.c l5) s2 rfl fun r h3 s3=>?_;obtain ⟨hr,s4⟩:=aM.1 s3;have hr':r = KK.seen k x.fFa (i64.wrap x.fc.e1):=hr;subst hr';have s5:ah (bV r37 (replicate 8 cc)::ma z k) h3:=aA [4,0,0,2,2,2,2,0,0] s4 rfl;have j1:∀ h,ah (bV r37 (KK.fGb k x.fFa (i64.wrap x.fc.e1))::ma z k) h->fO c (fun r=>pa_ (r = (KK.access k c x).1) (ma z (KK.access k c x).2)) (xb,0) (z.b,0) x.fc.e1 r37 () h:=by
   intro h s6;have hts:=(aX (j:=3) s6 rfl).1;unfold fO;refine ld_c1 (j:=8) x.fc.e0 s6 rfl hp hx rfl rfl ?_;refine aJ z.ts s6 (i:=1) rfl rfl rfl ?_;refine bE s6 (j:=3) rfl (by omega) (by omega) fun q hq=>?_;refine bK (j:=3) (i:=c) (k:=0) z.tp[c] fu s6 rfl hq (by simp) (al hcp) (by simp) ?_;refine ld_c1 (j:=8) x.fFa s6 rfl hp hx rfl rfl ?_;have s7:=gJ (al hcp) (al hct) (aA [4] s6 rfl);refine bG [0,1] (sp_user_Walk z.tp[c] r37 k.fMa[c] (KK.fGb k x.fFa (i64.wrap x.fc.e1)) x.fFa (i64.wrap x.fc.e1) (i64.wrap x.fc.e0)) s7 rfl fun r h8 s8=>?_;obtain ⟨hr,s9⟩:=aM.1 s8;have hr':r = (KK.fYa k c x).1:=by rw [hr]; unfold KK.fYa; rw [hbuf]
   have hw:(User.walk k.fMa[c] (KK.fGb k x.fFa (i64.wrap x.fc.e1)) x.fFa (i64.wrap x.fc.e1) (i64.wrap x.fc.e0)).2 = (KK.fYa k c x).2:=by unfold KK.fYa; rw [hbuf]
   rw [hw] at s9;subst hr';have s10:=vF (al hcp) hct zo.t (aA [0,1] s9 rfl);refine ar (fun d2=>?_) (fun d2=>?_)
   ·have e1:KK.access k c x = ((⟨7,0⟩,iP),{ k with fMa:=k.fMa.set c (KK.fYa k c x).2 }):=by
     unfold KK.access; rw [if_neg d',if_pos (by simpa using d2),toNat_natCast]
    rw [e1];exact aw rfl (aT (l:=[bV r37 _]) (aA [1,1,1,1,0] s10 rfl))
   ·have e1:KK.access k c x = (((PK.touch k.p (KK.fYa k c x).1.1.fEa x.fc).1.1,(KK.fYa k c x).1.1),{ k with fMa:=k.fMa.set c (KK.fYa k c x).2,p:=(PK.touch k.p (KK.fYa k c x).1.1.fEa x.fc).2 }):=by
     unfold KK.access; rw [if_neg d',if_neg (by simpa using d2),toNat_natCast]
    rw [e1];refine aJ z.pp s10 (i:=2) rfl rfl rfl ?_;refine ld_c (j:=8) x.fc s10 rfl hp hx five ?_;refine aW (nU z.pp k.p _ x.fc) (i:=3) rfl s10 fun r h11 hr s11=>?_;subst hr;have hs:=touch_s k.p (KK.fYa k c x).1.1.fEa x.fc;refine aw rfl ?_;have s12:=aT (l:=[bV r37 _]) (aA [1,1,1,1,0] s11 rfl);have ek:kcl z { k with fMa:=k.fMa.set c (KK.fYa k c x).2,p:=(PK.touch k.p (KK.fYa k c x).1.1.fEa x.fc).2 } = kcl z k:=by
     show [pv z.pp,Value.int .i64 (PK.touch k.p (KK.fYa k c x).1.1.fEa x.fc).2.s.fHa,_,_,_,_,_,_] = _;rw [hs]
    show ah (blk z.b bj (kcl z _)::_) _;rw [ek];exact s12
  refine ar (fun d2=>?_) (fun d2=>?_)
  ·refine aW (jF r37 _ (i64.wrap x.fc.e1) (KK.seen k x.fFa (i64.wrap x.fc.e1)).1) (i:=0) rfl s5 fun r h6 hr s6=>j1 _ ?_;have e1:KK.fGb k x.fFa (i64.wrap x.fc.e1) = (Table.insert (replicate 8 cc) (i64.wrap x.fc.e1) (KK.seen k x.fFa (i64.wrap x.fc.e1)).1).2:=if_pos d2;rw [e1]; exact s6
  ·have e1:KK.fGb k x.fFa (i64.wrap x.fc.e1) = replicate 8 cc:=if_neg (by rw [d2]; exact Bool.false_ne_true);exact j1 _ (by rw [e1]; exact s5)
theorem access_calls (k:KK) (c:Int) (x:KC):(KK.access k c x).2.calls = k.calls:=by
 unfold KK.access
 repeat' split
 all_goals rfl
theorem access_tlen (k:KK) (c:Int) (x:KC):(KK.access k c x).2.fMa.length = k.fMa.length:=by
 unfold KK.access
 repeat' split
 all_goals simp
theorem kz_tlbs {z:KZ} {k k':KK} (zo:KZ.Ok z k) (h1:k'.fMa.length = k.fMa.length) (h2:k'.calls.length = k.calls.length):KZ.Ok z k':=⟨by rw [h1]; exact zo.t,by rw [h2]; exact zo.c⟩
theorem sp_kern_Step (x:Ptr) (k:KK) (c:Int) (hn:k.now < 2 ^ 37):Sp prog lP [pv x,.int .i64 c] ai [bu x k] (fun r=>pa_ (r = (KK.step k c).1) [bu x (KK.step k c).2]):=by
 intro h s0;refine sim_kern_Kern_Step _ _ ?_;unfold uz;refine aW (nV x k c) (i:=0) rfl s0 fun r h1 hr s1=>?_;subst hr;refine ar (fun d=>?_) (fun d=>?_)
 ·have e1:KK.step k c = (false,k):=if_pos (by simpa using d);rw [e1]; exact aw rfl s1
 ·have d':KK.busy k c = true:=by simpa using d
  obtain ⟨hi,y,hy⟩:=busy_is d';have e1:KK.step k c = (true,KK.work (KK.tick k) c y):=by unfold KK.step; rw [if_neg (by simp [d']),hy]
  rw [e1];obtain ⟨z,rfl,zo,ok,st⟩:=qw s1;have okt:=kok_tick ok (by omega);obtain ⟨n,rfl,hnc⟩:=is_nat hi;obtain ⟨l1,l2,l3,l4,l5⟩:=kk_len ok;have hnp:n < z.cp.length:=by rw [zo.c]; exact hnc
  have hcs:=(aX (j:=6) st rfl).1;have hxn:k.calls[n]? = some (some y):=by rw [al hnc,← call_nat hnc,hy]
  have hep:=ok.epn;have hwn:=vJ ok.n0 (show k.now < 2 ^ 40 by omega);refine bn (aJ k.now st (i:=0) rfl rfl rfl ?_);refine mX (i:=0) st rfl (le_of_ble_eq_true rfl) fun h2 s2=>?_;have s3:ah (ma z (KK.tick k)) h2:=s2;have zot:KZ.Ok z (KK.tick k):=⟨zo.t,zo.c⟩
  have hxt:(KK.tick k).calls[n]? = some (some y):=hxn;have hyt:KK.call (KK.tick k) n = some y:=hy;have hit:KK.is (KK.tick k) n = true:=hi;have hept:((KK.tick k).fGa.1.length:Int) + 1 <= (KK.tick k).now:=by show _ <= i64.wrap (k.now + 1); rw [hwn]; simp only [KK.tick]; omega
  have hnt:(KK.tick k).now <= 2 ^ 37:=by show i64.wrap (k.now + 1) <= _; rw [hwn]; omega
  have okw:=kok_work okt hept hyt hit;have hnct:n < (KK.tick k).calls.length:=hnc;generalize KK.tick k = kt at *
  obtain ⟨xb,hp,_⟩:=wX (j:=7) s3 rfl (al hnp) hxt;have hpx:z.cp[n]? = some (some (xb,0)):=by rw [al hnp,hp]
  refine aJ z.cs s3 (i:=0) rfl rfl rfl ?_;refine bE s3 (j:=6) rfl (by omega) (by omega) fun q hq=>?_;refine bK (j:=6) (i:=n) (k:=0) z.cp[n] fu s3 rfl hq (by simp) (al hnp) (by simp) ?_;rw [hp];refine bn (ld_c (j:=7) y.fc s3 rfl hpx hxt five ?_);refine ar (fun d2=>?_) (fun d2=>?_)
  ·have ew:KK.work kt n y = KK.ends (KK.access kt n y).2 n y (KK.access kt n y).1.1 (KK.access kt n y).1.2:=if_pos d2;rw [ew];have oka:=kok_access okt n y;have hca:(KK.access kt n y).2.calls = kt.calls:=access_calls _ _ _;have hta:(KK.access kt n y).2.fMa.length = kt.fMa.length:=access_tlen _ _ _;refine bG [0,0,0,0,0,0,0,0,0] (sp_kern_access z kt n xb y hnct hxt hpx zot okt) s3 rfl fun r h4 s4=>?_;obtain ⟨hr,s5⟩:=aM.1 s4;subst hr;refine bG [0,0,0,0,0,0,0,0,0] (sp_kern_ends z (KK.access kt n y).2 n y (KK.access kt n y).1.1 (KK.access kt n y).1.2 (by rw [hca]; exact hnct) (by rw [hca]; exact hxt) (kz_tlbs zot hta (by rw [hca])) oka) s5 rfl fun r h6 s6=>?_;exact aw rfl (bT s6)
  ·have d2':¬ aQ (am y.fc).1 = true:=by rw [d2]; exact Bool.false_ne_true
   have j2:∀ b:Bool,(y.fQa = false/\KK.takes kt.p y = true) = False->b = (y.fQa && !(fNa.done kt.fGa y.fBb))->∀ h,ah (ma z kt) h->ii n (fun r=>pa_ (r = true) [bu (some (z.b,0)) (KK.work kt n y)]) (z.b,0) (xb,0) b h:=by
    intro b hno hb h s4;have ew:KK.work kt n y = (if y.fQa = true/\fNa.done kt.fGa y.fBb = false then kt else if (PK.do_ kt.p y.fFa y.fc).1.2 = true then KK.ends { kt with p:=(PK.do_ kt.p y.fFa y.fc).2 } n y (PK.do_ kt.p y.fFa y.fc).1.1 iP else { kt with p:=(PK.do_ kt.p y.fFa y.fc).2 }):=by
     unfold KK.work;rw [if_neg d2',if_neg (by rw [hno]; exact not_false)]
    rw [ew] at okw ⊢;unfold ii;refine ar (fun d4=>?_) (fun d4=>?_)
    ·have d4':y.fQa = true/\fNa.done kt.fGa y.fBb = false:=by rw [hb] at d4; simpa using d4
     rw [if_pos d4'];exact aw rfl (lV zot okt s4)
    ·have d4':¬ (y.fQa = true/\fNa.done kt.fGa y.fBb = false):=by rw [hb] at d4; simpa using d4
     rw [if_neg d4'] at okw ⊢;refine aJ z.pp s4 (i:=0) rfl rfl rfl ?_;refine ld_c1 (j:=7) y.fFa s4 rfl hpx hxt rfl rfl ?_;refine ld_c (j:=7) y.fc s4 rfl hpx hxt five ?_;refine aW (je z.pp kt.p y.fFa y.fc) (i:=1) rfl s4 fun r h5 hr s5=>?_;subst hr;have hs:=do_s kt.p y.fFa y.fc;have s6:ah (ma z { kt with p:=(PK.do_ kt.p y.fFa y.fc).2 }) h5:=by
      show ah (blk z.b bj [pv z.pp,Value.int .i64 (PK.do_ kt.p y.fFa y.fc).2.s.fHa,_,_,_,_,_,_]::_) _;rw [hs]; exact s5
     have okp:=kok_p okt (ok_do okt.p y.fFa y.fc) hs;refine ar (fun d5=>?_) (fun d5=>?_)
     ·rw [if_pos d5];refine bG [0,0,0,0,0,0,0,0,0] (sp_kern_ends z { kt with p:=(PK.do_ kt.p y.fFa y.fc).2 } n y (PK.do_ kt.p y.fFa y.fc).1.1 iP hnct hxt ⟨zot.t,zot.c⟩ okp) s6 rfl fun r h7 s7=>?_;exact aw rfl (bT s7)
     ·rw [if_neg (by rw [d5]; exact Bool.false_ne_true)];exact aw rfl (lV (k:={ kt with p:=_ }) ⟨zot.t,zot.c⟩ okp s6)
   refine ld_c1 (j:=7) y.fQa s3 rfl hpx hxt rfl rfl ?_;refine ar (fun d3=>?_) (fun d3=>?_)
   ·have d3':y.fQa = false:=by simpa using d3
    obtain ⟨xb',hp',s4⟩:=call_out hpx hxt (aA [7] s3 rfl);cases hp';refine bG [2,0,1] (sp_kern_takes z.b xb z.pp (kcl z kt) kt.p y rfl rfl) s4 rfl fun r h5 s5=>?_;obtain ⟨hr,s6⟩:=aM.1 s5;subst hr;unfold ij;refine ar (fun d4=>?_) (fun d4=>?_)
    ·have ew:KK.work kt n y = KK.send (KK.clean (KK.tell kt n y) n) n y:=by unfold KK.work; rw [if_neg d2',if_pos ⟨d3',d4⟩]
     rw [ew] at okw ⊢;refine mX (i:=1) s6 rfl (le_of_ble_eq_true rfl) fun h7 s7=>?_;have s8:=call_in (y:={ y with fQa:=true }) hpx hnct zot.c (aA [1,2] s7 rfl);have s9:ah (ma z (KK.tell kt n y)) h7:=aA [1,1,1,1,1,1,1,0,0] s8 rfl;have okl:KK.Ok (KK.tell kt n y):=kok_call okt n hyt (y:={ y with fQa:=true }) rfl rfl;have hll:n < (KK.tell kt n y).calls.length:=by simpa [KK.tell] using hnct
     have zol:KZ.Ok z (KK.tell kt n y):=⟨zot.t,by simpa [KK.tell] using zot.c⟩
     refine bG [0,0,0,0,0,0,0,0,0] (sp_kern_clean z (KK.tell kt n y) n hll zol okl) s9 rfl fun r h10 s10=>?_;have s11:=bT s10;have hcc:(KK.clean (KK.tell kt n y) n).calls[n]? = some (some { y with fQa:=true }):=by simp [KK.clean,KK.tell,hnct]
     have okc:=kok_clean okl n;have zoc:KZ.Ok z (KK.clean (KK.tell kt n y) n):=⟨by simpa [KK.clean] using zol.t,zol.c⟩
     have hepc:((KK.clean (KK.tell kt n y) n).fGa.1.length:Int) + 1 <= kt.now:=hept;have hbx:=okc.bx;have htl:(KK.clean (KK.tell kt n y) n).calls = kt.calls.set n (some { y with fQa:=true }):=rfl;have hnow:(KK.clean (KK.tell kt n y) n).now = kt.now:=rfl;generalize KK.clean (KK.tell kt n y) n = kc at *
     have hncc:n < kc.calls.length:=by rw [htl]; simpa using hnct
     refine aJ z.pe s11 (i:=0) rfl rfl rfl ?_;refine aW (sp_epoch_Begin z.pe kc.fGa n (by omega)) (i:=5) rfl s11 fun r h12 hr s12=>?_;subst hr;obtain ⟨xb',hp',s13⟩:=call_out hpx hcc (aA [7] s12 rfl);cases hp';refine mX (i:=0) s13 rfl (le_of_ble_eq_true rfl) fun h14 s14=>?_;have s15:=call_in (y:={ y with fQa:=true,fBb:=(fNa.begin_ kc.fGa n).1.1 }) hpx hncc zoc.c s14;refine aJ z.pm s15 (i:=1) rfl rfl rfl ?_;have hxe:(kc.calls.set n (some { y with fQa:=true,fBb:=(fNa.begin_ kc.fGa n).1.1 }))[n]? = some (some { y with fQa:=true,fBb:=(fNa.begin_ kc.fGa n).1.1 }):=by simp [hncc]
     refine ld_c1 (j:=0) (fNa.begin_ kc.fGa n).1.1 s15 rfl hpx hxe rfl rfl ?_;have he:fNa.is kc.fGa n = true:=by
      unfold fNa.is;have:=okc.el;have:=okc.cl;exact decide_eq_true (by omega)
     have eb:(fNa.begin_ kc.fGa n).1.1 = (kc.fGa.1.length:Int) + 1:=by unfold fNa.begin_; rw [if_pos he]
     refine aW (sp_mail_All z.pm kc.fLa n (fNa.begin_ kc.fGa n).1.1 ?_) (i:=5) rfl s15 fun r h16 hr s16=>?_
     ·intro l hl;rw [eb];exact box_fit (hbx l hl) (by omega)
     ·refine aw rfl (lV (k:=KK.send kc n y) ⟨zoc.t,by simpa [KK.send] using zoc.c⟩ okw (aA [1,1,1,1,1,1,1,0,0] s16 rfl))
    ·have hno:(y.fQa = false/\KK.takes kt.p y = true) = False:=by simp [d4]
     have s8:=call_in (y:=y) hpx hnct zot.c (aA [1,2] s6 rfl);rw [hG hxt] at s8;have s9:ah (ma z kt) h5:=aA [1,1,1,1,1,1,1,0,0] s8 rfl;refine ld_c1 (j:=7) y.fQa s9 rfl hpx hxt rfl rfl ?_;refine bB d3' ?_;exact j2 false hno (by rw [d3']; rfl) _ s9
   ·have d3':y.fQa = true:=by simpa using d3
    unfold ij;refine bB rfl ?_;refine ld_c1 (j:=7) y.fQa s3 rfl hpx hxt rfl rfl ?_;refine cg d3' ?_;refine aJ z.pe s3 (i:=0) rfl rfl rfl ?_;refine ld_c1 (j:=7) y.fBb s3 rfl hpx hxt rfl rfl ?_;refine aW (sp_epoch_Done z.pe kt.fGa y.fBb) (i:=5) rfl s3 fun r h4 hr s4=>?_;subst hr;exact j2 _ (by simp [d3']) (by rw [d3']; rfl) _ s4
theorem sp_kern_Post (x:Ptr) (k:KK) (c:Int) (hn:k.now < 2 ^ 37):Sp prog lQ [pv x,.int .i64 c] ai [bu x k] (fun r=>pa_ (r = (KK.post k c).1) [bu x (KK.post k c).2]):=by
 intro h s0;refine sim_kern_Kern_Post _ _ ?_;unfold uA;refine aW (pT x k c) (i:=0) rfl s0 fun r h1 hr s1=>?_;subst hr;refine ar (fun d=>?_) (fun d=>?_)
 ·have e1:KK.post k c = (false,k):=if_pos (by simpa using d);rw [e1]; exact aw rfl s1
 ·have d':KK.is k c = true:=by simpa using d
  obtain ⟨z,rfl,zo,ok,st⟩:=qw s1;have okp:=kok_post ok (by omega) c;obtain ⟨n,rfl,hnc⟩:=is_nat d';refine bn (aJ z.pm st (i:=0) rfl rfl rfl ?_);refine aW (sp_mail_Take z.pm k.fLa n) (i:=4) rfl st fun r h2 hr s2=>?_;subst hr;refine ar (fun d2=>?_) (fun d2=>?_)
  ·have d2':(Mail.take k.fLa n).1.2 = false:=by simpa using d2
   have e1:KK.post k n = (false,k):=by unfold KK.post; rw [if_neg (by simp [d']),if_pos d2']
   have e2:(Mail.take k.fLa n).2 = k.fLa:=by
    unfold Mail.take at d2' ⊢; split
    ·rfl
    ·rename_i hh; rw [if_neg hh] at d2'; cases d2'
   rw [e1];rw [e2] at s2;exact aw rfl (lV zo ok s2)
  ·have e1:KK.post k n = (true,{ KK.clean { KK.tick k with fLa:=(Mail.take k.fLa n).2 } n with fGa:=(fNa.ack k.fGa n (Mail.take k.fLa n).1.1).2 }):=by
    unfold KK.post; rw [if_neg (by simp [d']),if_neg (by simpa using d2)]
   rw [e1] at okp ⊢;refine aJ k.now s2 (i:=0) rfl rfl rfl ?_;refine mX (i:=0) s2 rfl (le_of_ble_eq_true rfl) fun h3 s3=>?_;have s4:ah (ma z { KK.tick k with fLa:=(Mail.take k.fLa n).2 }) h3:=s3;have okt:=kok_tick ok (by omega);have hbl:(Mail.take k.fLa n).2.length = k.fLa.length:=by unfold Mail.take; split <;> simp
   have hb:∀ l ∈ (Mail.take k.fLa n).2,mc k.fGa.1.length l:=by
    unfold Mail.take; split
    ·exact ok.bx
    ·exact boxes_set ok.bx _ (box_drop (box_of ok.bx n))
   have ok2:KK.Ok { KK.tick k with fLa:=(Mail.take k.fLa n).2 }:=⟨okt.p,okt.tl,by simp only [hbl]; exact ok.bl,okt.el,okt.cl,okt.cs,okt.n0,okt.evn,okt.epn,hb⟩
   refine bG [0,0,0,0,0,0,0,0,0] (sp_kern_clean z { KK.tick k with fLa:=(Mail.take k.fLa n).2 } n hnc ⟨zo.t,zo.c⟩ ok2) s4 rfl fun r h5 s5=>?_;have s6:=bT s5;refine aJ z.pe s6 (i:=0) rfl rfl rfl ?_;refine aW (sp_epoch_Ack z.pe k.fGa n _) (i:=5) rfl s6 fun r h7 hr s7=>?_;refine aw rfl (lV (z:=z) ⟨?_,zo.c⟩ okp s7);simpa [KK.clean,KK.tick] using zo.t
theorem sp_kern_Mail (x:Ptr) (k:KK) (c:Int):Sp prog qh [pv x,.int .i64 c] cH [bu x k] (fun r=>pa_ (r = KK.mail k c) [bu x k]):=by
 intro h s0;refine sim_kern_Kern_Mail _ _ ?_;unfold uB;refine aW (pT x k c) (i:=0) rfl s0 fun r h1 hr s1=>?_;subst hr;refine ar (fun d=>?_) (fun d=>?_)
 ·exact aw (by unfold KK.mail; rw [if_neg (by simpa using d)]) s1
 ·obtain ⟨z,rfl,zo,ok,st⟩:=qw s1;refine bn (aJ z.pm st (i:=0) rfl rfl rfl ?_);refine aW (sp_mail_Waits z.pm k.fLa c) (i:=4) rfl st fun r h2 hr s2=>?_;exact aw (by unfold KK.mail; rw [if_pos (by simpa using d),hr]) (lV zo ok s2)
theorem sp_slices_CloneE (s:Sl) (xs:List aL) (hb:xs.length < 2 ^ 38):Sp prog dN [sv s] dv [vE s xs] (fun r=>ah [vE r xs,vE s xs]):=by
 intro h s0;refine mf _ ?_;unfold gf;refine ar (fun k=>?_) (fun k=>?_)
 ·have hn:xs = []:=by
   obtain ⟨_,⟨e1,e2,e3⟩,_⟩:=cL (i:=0) rfl s0;rcases e3 with e3 | ⟨b,pre,rest,U,fr,h4,_⟩
   ·exact List.eq_nil_of_length_eq_zero (by omega)
   ·rw [h4] at k; cases k
  subst hn;exact dp s0
 ·refine db (τ:=aL) [] (val:=fun x=>.agg x.C.toArray) (enc:=ax.C) qy fZ (fun _=>rfl) s0 rfl rfl (by simp) fun y h' s1=>?_;refine ru (τ:=aL) (i:=0) (j:=1) (enc:=ax.C) (xs:=[]) (ys:=xs) qy qy.sl fZ ev_one s1 rfl rfl (by omega) (by simp; omega) (by simp; omega) fun v h2 s2=>?_;exact s2
theorem tc (x:Ptr) (k:KK) (hb:k.now < 2 ^ 38):Sp prog eS [pv x] dv [bu x k] (fun r=>ah [vE r k.events,bu x k]):=by
 intro h s0;obtain ⟨z,rfl,zo,ok,st⟩:=qw s0;have:=ok.evn;refine sim_kern_Kern_Events _ ?_;unfold rY;refine bB rfl (bn (aJ z.es st (i:=0) rfl rfl rfl ?_));refine sM (sp_slices_CloneE z.es k.events (by omega)) (i:=8) rfl st fun r h1 s1=>?_;exact vV s1 fun h2 s2=>lV zo ok s2
end
section
open Go Mb
attribute [local irreducible] bM gR il Val Tx Tu Tn RV Res br nn ix gd ld st nw cl clv dL Lp ct
def dT (a0:Ptr) (Rec7:kT (Bool × Int)) (s6:Bool × Int) (s11:Unit):hT:=cl prog eU [(pv a0),(.int .i64 s6.2)] ai fun r37=>cl prog eU [(pv a0),(.int .i64 s6.2)] ai fun r43=>br r43 ( cl prog lP [(pv a0),(.int .i64 s6.2)] ai fun r46=>Rec7 ((r37 || s6.1),(i64.wrap (s6.2 + 1)))) ( Rec7 ((r37 || s6.1),(i64.wrap (s6.2 + 1))))
def iN (a0:Ptr) (Rec7:kT (Bool × Int)) (s6:Bool × Int) (Rec20:kT Int) (s19:Int):hT:=br (decide (s19 < 5000)) ( cl prog qh [(pv a0),(.int .i64 s6.2)] cH fun r27=>br (decide (r27 > 0)) ( cl prog lQ [(pv a0),(.int .i64 s6.2)] ai fun r34=>Rec20 (i64.wrap (s19 + 1))) ( dT a0 Rec7 s6 ())) ( dT a0 Rec7 s6 ())
def iO (a0:Ptr) (a1:Int) (K:kT Bool) (Rec2:kT Int) (s1:Int) (Rec7:kT (Bool × Int)) (s6:Bool × Int):hT:=br (decide (s6.2 < a1)) ( ct (dT a0 Rec7 s6)<|Lp (iN a0 Rec7 s6) 0) ( br (!s6.1) ( K true) ( Rec2 (i64.wrap (s1 + 1))))
def iM (a0:Ptr) (a1:Int) (K:kT Bool) (Rec34:kT Int) (s33:Int):hT:=br (decide (s33 < a1)) ( cl prog eU [(pv a0),(.int .i64 s33)] ai fun r56=>br r56 ( K false) ( Rec34 (i64.wrap (s33 + 1)))) ( K true)
def nH (a0:Ptr) (a1:Int) (a2:Int) (K:kT Bool) (Rec2:kT Int) (s1:Int):hT:=br (decide (s1 < a2)) ( Lp (iO a0 a1 K Rec2 s1) (false,0)) ( Lp (iM a0 a1 K) 0)
def nB (a0:Ptr) (a1:Int) (a2:Int) (K:kT Bool):hT:=Lp (nH a0 a1 a2 K) 0
theorem vj (a0:Ptr) (a1:Int) (a2:Int) {K:kT Bool} {h:Hp} (H:nB a0 a1 a2 K h):cl prog fX [(pv a0),(.int .i64 a1),(.int .i64 a2)] ai K h:=have z0:LH (σ:=Int) 2 0 (fun s1 r=>(7,(.int .i64 s1))::r) [7] [0,1,2] (fun _ l=>l):=⟨⟩; have z1:LH (σ:=Bool × Int) 6 0 (fun s6 r=>(8,(.bool s6.1))::(9,(.int .i64 s6.2))::r) [8,9] [0,1,2,7] (fun _ l=>l):=⟨⟩; have z2:LH (σ:=Unit) 100012 0 (fun _ r=>r) [] [0,1,2,7,8,9] (fun _ l=>l):=⟨⟩; have z3:LH (σ:=Int) 9 0 (fun s19 r=>(10,(.int .i64 s19))::r) [10] [0,1,2,7,8,9] (fun _ l=>l):=⟨⟩; have z4:LH (σ:=Int) 18 0 (fun s33 r=>(11,(.int .i64 s33))::r) [11] [0,1] (fun _ l=>l):=⟨⟩; J [12] func16 H
def ia (a1:Int) (K:kT (ad × Bool)) (r24:Sl) (Rec9:kT (Int × ad)) (s8:Int × ad):hT:=br (decide (s8.1 >= 0)) ( ix r24 s8.1 fun q34=>ld (q34.1,q34.2 + Int.toNat s8.1 * 16 + 0) (cI .i64) fun x36=>br (x36 == a1) ( dL ( ld (q34.1,q34.2 + Int.toNat s8.1 * 16 + 10) ad.C fun x43=>ld (q34.1,q34.2 + Int.toNat s8.1 * 16 + 9) (cI .i64) fun x48=>K (x43,(decide (x48 > 0)))) ( ld (q34.1,q34.2 + Int.toNat s8.1 * 16 + 9) (cI .i64) fun x48=>ld (q34.1,q34.2 + Int.toNat s8.1 * 16 + 10) ad.C fun x43=>K (x43,(decide (x48 > 0))))) ( Rec9 ((i64.wrap (s8.1 - 1)),s8.2))) ( K ((⟨0,0⟩:ad),false))
def rc (a0:Ptr) (a1:Int) (a2:Int) (a3:aa) (K:kT (ad × Bool)):hT:=cl prog kC [(pv a0),(.int .i64 a1),(.int .i64 a2),(.agg (aa.C a3).toArray)] ai fun r16=>br (!r16) ( K ((⟨0,0⟩:ad),false)) ( cl prog fX [(pv a0),(.int .i64 8),(.int .i64 1000)] ai fun r20=>br (!r20) ( K ((⟨0,0⟩:ad),false)) ( cl prog eS [(pv a0)] dv fun r24=>Lp (ia a1 K r24) ((i64.wrap ((r24.len:Int) - 1)),(⟨0,0⟩:ad))))
theorem sim_messuagelaw16_Run (a0:Ptr) (a1:Int) (a2:Int) (a3:aa) {K:kT (ad × Bool)} {h:Hp} (H:rc a0 a1 a2 a3 K h):cl prog dx [(pv a0),(.int .i64 a1),(.int .i64 a2),(.agg (aa.C a3).toArray)] aD K h:=have z0:LH (σ:=Int × ad) 7 2 (fun s8 r=>(11,(.int .i64 s8.1))::r) [11] [1,8,10] (fun s8 l=>(setB l 0 (ad.C s8.2))):=⟨⟩; have z1:OH 10 [0,4,8,12,20,24,28,32] (.b 4 9 [] (.b 9 11 [40,46,48] .e [37,40,48] .e) [40,17,46,48] .e) [0]:=⟨⟩; J [] func32 H
def og (K:kT Bool):hT:=cl prog xX [(.agg (ao.C (⟨2,2,3⟩:ao)).toArray)] sO fun r21=>br r21.isNone ( K false) ( cl prog dx [(pv r21),(.int .i64 0),(.int .i64 0),(.agg (aa.C (⟨1,1,0,0,0⟩:aa)).toArray)] aD fun r27=>cl prog dx [(pv r21),(.int .i64 0),(.int .i64 0),(.agg (aa.C (⟨6,4,1,3,0⟩:aa)).toArray)] aD fun r33=>cl prog dx [(pv r21),(.int .i64 1),(.int .i64 0),(.agg (aa.C (⟨21,4,2,9,0⟩:aa)).toArray)] aD fun r39=>cl prog dx [(pv r21),(.int .i64 0),(.int .i64 0),(.agg (aa.C (⟨20,4,2,0,0⟩:aa)).toArray)] aD fun r45=>cl prog dx [(pv r21),(.int .i64 0),(.int .i64 0),(.agg (aa.C (⟨7,4,0,0,0⟩:aa)).toArray)] aD fun r51=>cl prog eS [(pv r21)] dv fun r55=>cl prog oF [(sv r55),(.agg (ao.C (⟨2,2,3⟩:ao)).toArray)] aR fun r59=>cl prog oG [(sv r55),(.agg (ao.C (⟨2,2,3⟩:ao)).toArray)] aR fun r65=>cl prog vy [(.int .i64 2),(.int .i64 3)] gj fun r68=>cl prog kr [] ai fun r69=>br (((((((((((((((r69 && r27.2) && r33.2) && r39.2) && r45.2) && r51.2) && (r27.1.fWa == 0)) && (r33.1.fWa == 0)) && (r39.1.fWa == 0)) && (r45.1.fVal == 9)) && (r51.1.fWa == 0)) && ((r55.len:Int) == 5)) && (r59.1 == (-1))) && r59.2) && (r65.1 == (-1))) && r65.2) ( cl prog xZ [(sv r55),(.agg (ao.C (⟨2,2,3⟩:ao)).toArray)] ai fun r132=>br r132 ( cl prog lR [(sv r55)] av fun r136=>br (((r136.len:Int) == 5) && ((r68.len:Int) == 12)) ( cl prog n_fair_Fair [(sv r68),(.int .i64 2),(.int .i64 5)] ai fun r147=>br r147 ( cl prog n_twin_View [(sv r55),(.int .i64 0)] mL fun r151=>br ((r151.len:Int) == 5) ( cl prog vx [(sv r55),(.agg (ao.C (⟨2,2,3⟩:ao)).toArray)] ai fun r158=>K r158) ( K false)) ( K false)) ( K false)) ( K false)) ( K false))
theorem wg {K:kT Bool} {h:Hp} (H:og K h):cl prog ko [] ai K h:=J [] func11 H
def rd (a0:Sl) (a1:Int) (K:kT Sl):hT:=hpv prog (Instr.sliceAt kL (sv a0) none (some (.int .i64 (mn (a0.len:Int) a1))) none) gj fun (v10:Sl)=>K v10
theorem sim_messuagelaw16_Cut (a0:Sl) (a1:Int) {K:kT Sl} {h:Hp} (H:rd a0 a1 K h):cl prog my [(sv a0),(.int .i64 a1)] gj K h:=J [] func13 H
def rW (a0:Ptr) (a1:bJ) (K:kT Bool):hT:=br (a1.fFb == 1) ( cl prog kC [(pv a0),(.int .i64 a1.fOa),(.int .i64 a1.fBa),(.agg (aa.C a1.fJa).toArray)] ai fun r16=>K r16) ( br (a1.fFb == 2) ( cl prog lP [(pv a0),(.int .i64 a1.fOa)] ai fun r22=>K r22) ( br (a1.fFb == 3) ( cl prog lQ [(pv a0),(.int .i64 a1.fOa)] ai fun r28=>K r28) ( br (a1.fFb == 4) ( cl prog oE [(pv a0),(.int .i64 a1.fOa),(.int .i64 a1.fSet),(.int .i64 a1.fWay)] ai fun r40=>K r40) ( K false))))
theorem sim_messuagelaw16_Do (a0:Ptr) (a1:bJ) {K:kT Bool} {h:Hp} (H:rW a0 a1 K h):cl prog ni [(pv a0),(.agg (bJ.C a1).toArray)] ai K h:=J [] func15 H
def nG (a0:Sl) (K:kT Ptr) (r11:Ptr) (r13:Sl) (Rec4:kT Int) (s3:Int):hT:=br (decide (s3 < (r13.len:Int))) ( ix r13 s3 fun q17=>ld (q17.1,q17.2 + Int.toNat s3 * 1) (cI .i64) fun x18=>ix a0 x18 fun q22=>ld (q22.1,q22.2 + Int.toNat x18 * 16 + 2) aa.C fun x24=>br ((!(aB x24).2) || (!(dQ ((aB x24).1)))) ( ld (q22.1,q22.2 + Int.toNat x18 * 16 + 1) (cI .i64) fun x40=>ld (q22.1,q22.2 + Int.toNat x18 * 16 + 2) aa.C fun x45=>cl prog gP [(pv r11),(.int .i64 x40),(.agg (aa.C x45).toArray)] aD fun r46=>Rec4 (i64.wrap (s3 + 1))) ( Rec4 (i64.wrap (s3 + 1)))) ( K r11)
def nA (a0:Sl) (a1:ao) (K:kT Ptr):hT:=cl prog mw [(.agg (ao.C a1).toArray)] df fun r11=>cl prog kY [(sv a0)] av fun r13=>Lp (nG a0 K r11 r13) 0
theorem vi (a0:Sl) (a1:ao) {K:kT Ptr} {h:Hp} (H:nA a0 a1 K h):cl prog jy [(sv a0),(.agg (ao.C a1).toArray)] df K h:=have z0:LH (σ:=Int) 3 1 (fun s3 r=>(15,(.int .i64 s3))::r) [15] [0,5,13,14] (fun _ l=>l):=⟨⟩; have z1:OH 7 [0,4,8,12,16,24,28,32,36,21,41,46] .e []:=⟨⟩; J [] func17 H
def jU (a0:ao) (K:kT Bool) (r59:Ptr) (Rec36:kT Int) (s35:Int) (r72:Sl) (Rec44:kT Int) (s43:Int):hT:=br (decide (s43 < (r72.len:Int))) ( ix r72 s43 fun q76=>ld (q76.1,q76.2 + Int.toNat s43 * 4) an.C fun x77=>br (decide (x77.fBa < 0)) ( Rec44 (i64.wrap (s43 + 1))) ( br (((decide (x77.fBa >= ((bb a0).fHa))) || (decide (x77.fPa < 0))) || (decide (x77.fPa >= 8))) ( K false) ( nn r59 fun q101=>gd (0 <= x77.fBa/\x77.fBa < 4)<|gd (0 <= x77.fPa/\x77.fPa < 8)<|ld (q101.1,q101.2 + 163 + Int.toNat x77.fBa * 24 + Int.toNat x77.fPa * 3) ak.C fun x105=>br ((x105.fEa != x77.fEa) || (!(bp x77.fCa x105.fCa))) ( K false) ( Rec44 (i64.wrap (s43 + 1)))))) ( Rec36 (i64.wrap (s35 + 1)))
def fF (a0:ao) (K:kT Bool) (r25:Ptr) (Rec7:kT Int) (s6:Int) (s17:Bool × Int) (r59:Ptr) (Rec36:kT Int) (s35:Int):hT:=br ((decide (s35 < ((bb a0).fRa))) && (!s17.1)) ( cl prog oD [(pv r25),(.int .i64 s35)] im fun r72=>Lp (jU a0 K r59 Rec36 s35 r72) 0) ( Rec7 (i64.wrap (s6 + 1)))
def jV (a0:ao) (K:kT Bool) (r25:Ptr) (Rec7:kT Int) (s6:Int) (r38:Sl) (Rec18:kT (Bool × Int)) (s17:Bool × Int):hT:=br (decide (s17.2 < (r38.len:Int))) ( ix r38 s17.2 fun q43=>ld (q43.1,q43.2 + Int.toNat s17.2 * 16) ax.C fun x44=>Rec18 ((s17.1 || ((x44.fXa == 0) && (fS x44.fJa))),(i64.wrap (s17.2 + 1)))) ( cl prog jy [(sv r38),(.agg (ao.C (bb a0)).toArray)] df fun r59=>Lp (fF a0 K r25 Rec7 s6 s17 r59) 0)
def jW (a0:ao) (K:kT Bool) (r23:Sl) (r25:Ptr) (Rec7:kT Int) (s6:Int):hT:=br (decide (s6 < (r23.len:Int))) ( ix r23 s6 fun q34=>ld (q34.1,q34.2 + Int.toNat s6 * 10) bJ.C fun x35=>cl prog ni [(pv r25),(.agg (bJ.C x35).toArray)] ai fun r36=>cl prog eS [(pv r25)] dv fun r38=>Lp (jV a0 K r25 Rec7 s6 r38) (false,0)) ( K true)
def jM (a0:ao) (a1:Sl) (K:kT Bool):hT:=cl prog ko [] ai fun r17=>br (!r17) ( K false) ( cl prog my [(sv a1),(.int .i64 250)] gj fun r23=>cl prog xX [(.agg (ao.C (bb a0)).toArray)] sO fun r25=>Lp (jW a0 K r23 r25) 0)
theorem qQ (a0:ao) (a1:Sl) {K:kT Bool} {h:Hp} (H:jM a0 a1 K h):cl prog kz [(.agg (ao.C a0).toArray),(sv a1)] ai K h:=have z0:LH (σ:=Int) 7 1 (fun s6 r=>(28,(.int .i64 s6))::r) [28] [1,2,6,27] (fun _ l=>l):=⟨⟩; have z1:LH (σ:=Bool × Int) 13 1 (fun s17 r=>(8,(.bool s17.1))::(41,(.int .i64 s17.2))::r) [8,41] [1,2,6,9,27,28,39,40] (fun _ l=>l):=⟨⟩; have z2:LH (σ:=Int) 19 1 (fun s35 r=>(13,(.int .i64 s35))::r) [13] [1,2,6,8,12,27,28] (fun _ l=>l):=⟨⟩; have z3:LH (σ:=Int) 22 1 (fun s43 r=>(74,(.int .i64 s43))::r) [74] [1,2,6,8,12,13,27,28,72,73] (fun _ l=>l):=⟨⟩; have z4:OH 27 [0,4,8,12,16,20,24,28,32,37,42,46] .e []:=⟨⟩; J [] func4 H
end
section
open Go Mb
namespace KK
def drain (c:Int):Nat->KK->KK
 | 0,k=>k
 | n + 1,k=>if 0 < mail k c then drain c n (post k c).2 else k
def turn1 (k:KK) (c:Int):KK × Bool:=if busy (drain c 5000 k) c = true then ((step (drain c 5000 k) c).2,true) else (drain c 5000 k,false)
def sweep:Nat->Int->KK->Bool->KK × Bool
 | 0,_,k,b=>(k,b)
 | n + 1,c,k,b=>sweep n (c + 1) (turn1 k c).1 ((turn1 k c).2 || b)
def anyBusy (k:KK):Nat->Int->Bool
 | 0,_=>false
 | n + 1,c=>busy k c || anyBusy k n (c + 1)
def settle (cores:Nat):Nat->KK->Bool × KK
 | 0,k=>(!anyBusy k cores 0,k)
 | n + 1,k=>if (sweep cores 0 k false).2 = false then (true,(sweep cores 0 k false).1) else settle cores n (sweep cores 0 k false).1
def lastA (core:Int) (es:List aL):Nat->bY × Bool
 | 0=>(⟨0,0⟩,false)
 | n + 1=>match es[n]? with
  | some e=>if e.fOa = core then (e.fCb,decide (e.fXa > 0)) else lastA core es n
  | none=>(⟨0,0⟩,false)
def run (k:KK) (core env:Int) (c:bv):(bY × Bool) × KK :=
 if (begin_ k core env c).1 = false then ((⟨0,0⟩,false),(begin_ k core env c).2)
 else if (settle 8 1000 (begin_ k core env c).2).1 = false then ((⟨0,0⟩,false),(settle 8 1000 (begin_ k core env c).2).2)
 else (lastA core (settle 8 1000 (begin_ k core env c).2).2.events (settle 8 1000 (begin_ k core env c).2).2.events.length,(settle 8 1000 (begin_ k core env c).2).2)
theorem access_now (k:KK) (c:Int) (x:KC):(access k c x).2.now = k.now:=by unfold access; split; rfl; split <;> rfl
theorem work_now (k:KK) (c:Int) (x:KC):(work k c x).now = k.now:=by
 unfold work;split
 ·exact access_now k c x
 ·split
  ·rfl
  ·split
   ·rfl
   ·split <;> rfl
theorem step_now {k:KK} (h0:0 <= k.now) (h:k.now < 2 ^ 38) (c:Int):k.now <= (step k c).2.now/\(step k c).2.now <= k.now + 1:=by
 have hw:=vJ h0 (by omega);unfold step;split
 ·exact ⟨le_refl _,by show k.now <= k.now + 1; omega⟩
 ·split
  ·exact ⟨le_refl _,by show k.now <= k.now + 1; omega⟩
  ·show _ <= (work _ _ _).now/\(work _ _ _).now <= _;rw [work_now];simp only [tick,hw]; omega
theorem post_now {k:KK} (h0:0 <= k.now) (h:k.now < 2 ^ 38) (c:Int):k.now <= (post k c).2.now/\(post k c).2.now <= k.now + 1:=by
 have hw:=vJ h0 (by omega);unfold post;split
 ·exact ⟨le_refl _,by show k.now <= k.now + 1; omega⟩
 ·split
  ·exact ⟨le_refl _,by show k.now <= k.now + 1; omega⟩
  ·show _ <= (tick k).now/\(tick k).now <= _;simp only [tick,hw]; omega
theorem begin_now {k:KK} (h0:0 <= k.now) (h:k.now < 2 ^ 38) (core env:Int) (c:bv):k.now <= (begin_ k core env c).2.now/\(begin_ k core env c).2.now <= k.now + 1:=by
 have hw:=vJ h0 (by omega);unfold begin_;split
 ·exact ⟨le_refl _,by show k.now <= k.now + 1; omega⟩
 ·simp only [hw]; omega
end KK
section
variable {x:Ptr} {l:List As}
theorem kern_n0 {k:KK} {h:Hp} (s:ah (bu x k::l) h):0 <= k.now/\k.events.length <= k.now:=by
 obtain ⟨z,_,_,ok,_⟩:=qw s;exact ⟨ok.n0,ok.evn⟩
theorem settle_l3 {Rec:Bool × Int->Hp->Prop} {k:KK} {b:Bool} {c:Int} {h:Hp} (h0:0 <= c) (hc:c < 100) (hn:k.now + 5001 < 2 ^ 37) (st:ah (bu x k::l) h)
  (kk:∀ h',(KK.turn1 k c).1.now <= k.now + 5001->ah (bu x (KK.turn1 k c).1::l) h'->Rec ((KK.turn1 k c).2 || b,c + 1) h'):Lp (iN x Rec (b,c)) 0 h:=by
 have hj:∀ d h',KK.drain c 5000 k = d->d.now <= k.now + 5000->ah (bu x d::l) h'->dT x Rec (b,c) () h':=by
  intro d h' e hd s1;unfold dT;refine aW (i:=0) (nV x d c) rfl s1 fun r h2 hr s2=>?_;refine aW (i:=0) (nV x d c) rfl s2 fun r' h3 hr' s3=>?_;subst hr; subst hr';have hw:i64.wrap (c + 1) = c + 1:=aE (by omega) (by omega);simp only [hw];refine ar (fun k2=>?_) (fun k2=>?_)
  ·refine aW (i:=0) (sp_kern_Step x d c (by omega)) rfl s3 fun r h4 hr s4=>?_;have e2:KK.turn1 k c = ((KK.step d c).2,true):=by unfold KK.turn1; rw [e,if_pos k2]
   have n1:=kern_n0 s3;have n2:=KK.step_now n1.1 (by omega) c;rw [e2] at kk;rw [k2];exact kk h4 (by show (KK.step d c).2.now <= _; omega) s4
  ·have e2:KK.turn1 k c = (d,false):=by unfold KK.turn1; rw [e,if_neg (by rw [k2]; exact Bool.false_ne_true)]
   rw [e2] at kk;rw [k2];exact kk h3 (by show d.now <= _; omega) s3
 refine Lp.intro (fun (m:Int) h=>∃ (n:Nat) (d:KK),m = 5000 - n/\n <= 5000/\KK.drain c n d = KK.drain c 5000 k/\d.now <= k.now + (5000 - n)/\ah (bu x d::l) h) (fun m _=>(5000 - m).toNat) ⟨5000,k,rfl,Nat.le_refl _,rfl,by omega,st⟩ ?_;rintro m h1 ⟨n,d,rfl,hm,e,hd,s1⟩;unfold iN;refine ar (fun k1=>?_) (fun k1=>?_)
 ·have hlt:0 < n:=by have:=of_decide_eq_true k1; omega
  obtain ⟨n,rfl⟩:∃ j,n = j + 1:=⟨n - 1,by omega⟩
  refine aW (i:=0) (sp_kern_Mail x d c) rfl s1 fun r h2 hr s2=>?_;subst hr;refine ar (fun k2=>?_) (fun k2=>?_)
  ·have k2':0 < KK.mail d c:=of_decide_eq_true k2;refine aW (i:=0) (sp_kern_Post x d c (by omega)) rfl s2 fun r h3 hr s3=>?_;have n1:=kern_n0 s2;have n2:=KK.post_now n1.1 (by omega) c;have hw:i64.wrap ((5000:Int) - ((n + 1:Nat):Int) + 1) = 5000 - (n:Int):=by rw [aE (by omega) (by omega)]; omega
   rw [hw];refine ⟨⟨n,_,rfl,by omega,?_,by omega,s3⟩,by show (5000 - (5000 - (n:Int))).toNat < (5000 - (5000 - ((n + 1:Nat):Int))).toNat; omega⟩;rw [← e];exact (if_pos k2').symm
  ·have k2':¬ 0 < KK.mail d c:=of_decide_eq_false k2;exact hj d h2 (by rw [← e]; exact if_neg k2') (by omega) s2
 ·have hz:n = 0:=by have:=of_decide_eq_false k1; omega
  subst hz;exact hj d h1 e.symm (by omega) s1
theorem settle_l2 {Rec2:Int->Hp->Prop} {K:Bool->Hp->Prop} {k:KK} {m:Int} {cores:Nat} {h:Hp} (hc:cores <= 8) (hn:k.now + cores * 5001 < 2 ^ 37) (st:ah (bu x k::l) h)
  (kt:∀ h',(KK.sweep cores 0 k false).2 = false->(KK.sweep cores 0 k false).1.now <= k.now + cores * 5001->ah (bu x (KK.sweep cores 0 k false).1::l) h'->K true h')
  (kf:∀ h',(KK.sweep cores 0 k false).2 = true->(KK.sweep cores 0 k false).1.now <= k.now + cores * 5001->ah (bu x (KK.sweep cores 0 k false).1::l) h'->Rec2 (i64.wrap (m + 1)) h') :
  Lp (iO x cores K Rec2 m) (false,0) h:=by
 refine Lp.intro (fun (s:Bool × Int) h=>∃ (n:Nat) (d:KK),s.2 = (cores:Int) - n/\n <= cores/\KK.sweep n s.2 d s.1 = KK.sweep cores 0 k false/\d.now <= k.now + (cores - n) * 5001/\ah (bu x d::l) h) (fun s _=>cores - s.2.toNat)
  ⟨cores,k,by simp,Nat.le_refl _,rfl,by simp,st⟩ ?_
 rintro ⟨b,c⟩ h1 ⟨n,d,e0,hm,e,hd,s1⟩;simp only at e0 e;subst e0;unfold iO;refine ar (fun k1=>?_) (fun k1=>?_)
 ·have hlt:0 < n:=by have:=of_decide_eq_true k1; simp only at this; omega
  obtain ⟨n,rfl⟩:∃ j,n = j + 1:=⟨n - 1,by omega⟩
  have hq:(((cores:Int) - ((n + 1:Nat):Int)) * 5001) + 5001 = ((cores:Int) - n) * 5001:=by omega
  have hq2:((cores:Int) - n) * 5001 <= cores * 5001:=by omega
  refine settle_l3 (by omega) (by omega) (by omega) s1 fun h' hnow s2=>?_;have hw:(cores:Int) - ((n + 1:Nat):Int) + 1 = (cores:Int) - n:=by omega
  refine ⟨⟨n,_,hw,by omega,?_,by omega,s2⟩,?_⟩
  ·rw [← e]; rfl
  ·show cores - ((cores:Int) - ((n + 1:Nat):Int) + 1).toNat < cores - ((cores:Int) - ((n + 1:Nat):Int)).toNat;omega
 ·have hz:n = 0:=by have:=of_decide_eq_false k1; simp only at this; omega
  subst hz;have e':(d,b) = KK.sweep cores 0 k false:=e;refine ar (fun k2=>?_) (fun k2=>?_)
  ·have hb:b = false:=by simpa using k2
   rw [← e'] at kt;exact kt h1 hb (by show d.now <= _; simpa using hd) s1
  ·have hb:b = true:=by simpa using k2
   rw [← e'] at kf;exact kf h1 hb (by show d.now <= _; simpa using hd) s1
theorem settle_l4 {K:Bool->Hp->Prop} {k:KK} {cores:Nat} {h:Hp} (hc:cores <= 8) (st:ah (bu x k::l) h)
  (kk:∀ h',ah (bu x k::l) h'->K (!KK.anyBusy k cores 0) h'):Lp (iM x cores K) 0 h:=by
 refine Lp.intro (fun (c:Int) h=>∃ n:Nat,c = (cores:Int) - n/\n <= cores/\KK.anyBusy k n c = KK.anyBusy k cores 0/\ah (bu x k::l) h) (fun s _=>cores - s.toNat) ⟨cores,by simp,Nat.le_refl _,rfl,st⟩ ?_;rintro c h1 ⟨n,rfl,hm,e,s1⟩;unfold iM;refine ar (fun k1=>?_) (fun k1=>?_)
 ·have hlt:0 < n:=by have:=of_decide_eq_true k1; omega
  obtain ⟨n,rfl⟩:∃ j,n = j + 1:=⟨n - 1,by omega⟩
  refine aW (i:=0) (nV x k _) rfl s1 fun r h2 hr s2=>?_;subst hr;have e':(KK.busy k ((cores:Int) - ((n + 1:Nat):Int)) || KK.anyBusy k n ((cores:Int) - ((n + 1:Nat):Int) + 1)) = KK.anyBusy k cores 0:=e;refine ar (fun k2=>?_) (fun k2=>?_)
  ·rw [k2,Bool.true_or] at e';rw [← e'] at kk;exact kk h2 s2
  ·rw [k2,Bool.false_or] at e';have hw:i64.wrap ((cores:Int) - ((n + 1:Nat):Int) + 1) = (cores:Int) - ((n + 1:Nat):Int) + 1:=aE (by omega) (by omega);rw [hw];refine ⟨⟨n,by omega,by omega,e',s2⟩,by omega⟩
 ·have hz:n = 0:=by have:=of_decide_eq_false k1; omega
  subst hz;have e':false = KK.anyBusy k cores 0:=e;rw [← e'] at kk;exact kk h1 s1
end
theorem sp_Settle (x:Ptr) (k:KK) (cores most:Nat) (hc:cores <= 8) (hm:most <= 1000) (hn:k.now < 2 ^ 36):Sp prog fX [pv x,.int .i64 cores,.int .i64 most] ai [bu x k]
  (fun r=>pa_ (r = (KK.settle cores most k).1/\(KK.settle cores most k).2.now <= k.now + most * 40008) [bu x (KK.settle cores most k).2]):=by
 intro h st;refine vj _ _ _ ?_;unfold nB;refine Lp.intro (fun (m:Int) h=>∃ (n:Nat) (d:KK),m = (most:Int) - n/\n <= most/\KK.settle cores n d = KK.settle cores most k/\d.now <= k.now + (most - n) * 40008/\ah [bu x d] h) (fun m _=>most - m.toNat)
  ⟨most,k,by simp,Nat.le_refl _,rfl,by simp,st⟩ ?_
 rintro m h1 ⟨n,d,rfl,hnm,e,hd,s1⟩;unfold nH;have hq:((most:Int) - n) * 40008 <= 1000 * 40008:=by omega
 have hq2:(cores:Int) * 5001 <= 40008:=by omega
 refine ar (fun k1=>?_) (fun k1=>?_)
 ·have hlt:0 < n:=by have:=of_decide_eq_true k1; omega
  obtain ⟨n,rfl⟩:∃ j,n = j + 1:=⟨n - 1,by omega⟩
  have e':(if (KK.sweep cores 0 d false).2 = false then (true,(KK.sweep cores 0 d false).1) else KK.settle cores n (KK.sweep cores 0 d false).1) = KK.settle cores most k:=e;refine settle_l2 hc (by omega) s1 (fun h' hb hnow s2=>?_) (fun h' hb hnow s2=>?_)
  ·rw [if_pos hb] at e';rw [← e'];exact aw ⟨rfl,by show (KK.sweep cores 0 d false).1.now <= _; omega⟩ s2
  ·rw [if_neg (by rw [hb]; decide)] at e';have hw:i64.wrap ((most:Int) - ((n + 1:Nat):Int) + 1) = (most:Int) - n:=by rw [aE (by omega) (by omega)]; omega
   rw [hw];exact ⟨⟨n,_,rfl,by omega,e',by omega,s2⟩,by omega⟩
 ·have hz:n = 0:=by have:=of_decide_eq_false k1; omega
  subst hz;have e':(!KK.anyBusy d cores 0,d) = KK.settle cores most k:=e;refine settle_l4 hc s1 fun h' s2=>?_;rw [← e'];exact aw ⟨rfl,by show d.now <= _; simpa using hd⟩ s2
theorem run_yes {k:KK} {core env:Int} {c:bv} {d e:KK} (h1:(KK.begin_ k core env c) = (true,d)) (h2:KK.settle 8 1000 d = (true,e)):KK.run k core env c = (KK.lastA core e.events e.events.length,e):=by
 unfold KK.run;rw [h1]
 dsimp only
 rw [if_neg (by decide),h2]
 dsimp only
 rw [if_neg (by decide)]
theorem run_l1 {s:Sl} {es:List aL} {l:List As} {core:Int} {K:bY × Bool->Hp->Prop} {h:Hp} (hb:es.length < 2 ^ 38) (st:ah (vE s es::l) h)
  (kk:∀ h',ah (vE s es::l) h'->K (KK.lastA core es es.length) h'):Lp (ia core K s) (i64.wrap ((s.len:Int) - 1),⟨0,0⟩) h:=by
 have hl:=(aX (j:=0) st rfl).1;have hw0:i64.wrap ((s.len:Int) - 1) = (es.length:Int) - 1:=by rw [hl,aE (by omega) (by omega)]
 rw [hw0];refine Lp.intro (fun (z:Int × bY) h=>∃ n:Nat,z = ((n:Int) - 1,⟨0,0⟩)/\n <= es.length/\KK.lastA core es n = KK.lastA core es es.length/\ah (vE s es::l) h) (fun z _=>(z.1 + 1).toNat) ⟨_,rfl,Nat.le_refl _,rfl,st⟩ ?_;rintro _ h1 ⟨n,rfl,hn,e,s1⟩;unfold ia;refine ar (fun k1=>?_) (fun k1=>?_)
 ·have hlt:0 < n:=by have:=of_decide_eq_true k1; simp only at this; omega
  obtain ⟨n,rfl⟩:∃ j,n = j + 1:=⟨n - 1,by omega⟩
  have hn':n < es.length:=by omega
  have hi:((n + 1:Nat):Int) - 1 = (n:Int):=by omega
  simp only [hi];have e':(match es[n]? with
   | some e=>if e.fOa = core then (e.fCb,decide (e.fXa > 0)) else KK.lastA core es n
   | none=>(⟨0,0⟩,false)) = KK.lastA core es es.length:=e
  rw [al hn'] at e';simp only at e';refine bE s1 (j:=0) rfl (by omega) (by show (n:Int) < _; omega) fun q hq=>?_;have lk:∀ {σ:Type} {enc:σ->List Value} {K:σ->Hp->Prop} (y:σ) (o:Nat),(∀ i v,(enc y)[i]? = some v->(es[n].C)[o + i]? = some v)->K y h1->ld (q.1,q.2 + Int.toNat (n:Int) * 16 + o) enc K h1:=by
   intro σ enc K y o he k;exact bK (j:=0) (i:=n) (k:=o) y fZ s1 rfl hq (by simp) (al hn') he k
  refine lk es[n].fOa 0 (fun i v hv=>?_) ?_
  ·rcases i with _ | i <;> first | exact hv | simp [cI] at hv
  refine ar (fun k2=>?_) (fun k2=>?_)
  ·have k2':es[n].fOa = core:=by simpa using k2
   rw [if_pos k2'] at e';have hA:∀ i v,(ad.C es[n].fCb)[i]? = some v->(es[n].C)[10 + i]? = some v:=by
    intro i v hv;rcases i with _ | _ | i <;> first | exact hv | simp [ad.C] at hv
   have hE:∀ i v,((cI .i64) es[n].fXa)[i]? = some v->(es[n].C)[9 + i]? = some v:=by
    intro i v hv;rcases i with _ | i <;> first | exact hv | simp [cI] at hv
   refine ⟨lk _ 10 hA (lk _ 9 hE ?_),lk _ 9 hE (lk _ 10 hA ?_)⟩
   ·rw [e']; exact kk h1 s1
   ·rw [e']; exact kk h1 s1
  ·have k2':¬ es[n].fOa = core:=by simpa using k2
   rw [if_neg k2'] at e';rw [aE (by omega) (by omega)];exact ⟨⟨n,rfl,by omega,e',s1⟩,by show ((n:Int) - 1 + 1).toNat < ((n:Int) + 1).toNat; omega⟩
 ·have hz:n = 0:=by have:=of_decide_eq_false k1; simp only at this; omega
  subst hz;have e':((⟨0,0⟩,false):bY × Bool) = KK.lastA core es es.length:=e;rw [← e'] at kk;exact kk h1 s1
theorem run_no {k:KK} {core env:Int} {c:bv} {d e:KK} (h1:(KK.begin_ k core env c) = (true,d)) (h2:KK.settle 8 1000 d = (false,e)):KK.run k core env c = ((⟨0,0⟩,false),e):=by
 unfold KK.run;rw [h1]
 dsimp only
 rw [if_neg (by decide),h2]
 dsimp only
 rw [if_pos rfl]
theorem run_tail (x:Ptr) (k:KK) (core env:Int) (c:bv) (d:KK) (h1:KK.begin_ k core env c = (true,d)) (hn:d.now <= k.now + 1) (hk:k.now < 2 ^ 35) {h:Hp} (s1:ah [bu x d] h) :
  (cl prog fX [(pv x),(.int .i64 8),(.int .i64 1000)] ai fun r20 =>
   br (!r20) ((fun r h'=>pa_ (r = (KK.run k core env c).1/\(KK.run k core env c).2.now <= k.now + 40008001) [bu x (KK.run k core env c).2] h') (⟨0,0⟩,false)) (
   cl prog eS [(pv x)] dv fun r24 =>
   Lp (ia core (fun r h'=>pa_ (r = (KK.run k core env c).1/\(KK.run k core env c).2.now <= k.now + 40008001) [bu x (KK.run k core env c).2] h') r24) ((i64.wrap ((r24.len:Int) - 1)),(⟨0,0⟩:ad)))) h:=by
 have c8:=sp_Settle x d 8 1000 (Nat.le_refl _) (Nat.le_refl _) (by omega);generalize hz:KK.settle 8 1000 d = z at c8;obtain ⟨b,e⟩:=z;refine aW (i:=0) c8 rfl s1 fun r h2 hr s2=>?_;obtain ⟨hr,hs⟩:=hr;have hs':e.now <= d.now + 40008000:=hs;have n2:=kern_n0 s2;have hr':r = b:=hr;rw [hr'];cases b
 ·rw [run_no h1 hz];exact cg rfl (aw ⟨rfl,by show e.now <= _; omega⟩ s2)
 ·refine bB rfl ?_;refine sM (i:=0) (tc x _ (by show e.now < _; omega)) rfl s2 fun s h3 s3=>?_;refine run_l1 (by show e.events.length < _; have:(e.events.length:Int) <= e.now:=n2.2; omega) s3 fun h4 s4=>?_;rw [run_yes h1 hz];exact aw ⟨rfl,by show e.now <= _; omega⟩ (aT (l:=[_]) s4)
theorem sp_Run (x:Ptr) (k:KK) (core env:Int) (c:bv) (hn:k.now < 2 ^ 35):Sp prog dx [pv x,.int .i64 core,.int .i64 env,.agg c.C.toArray] aD [bu x k]
  (fun r=>pa_ (r = (KK.run k core env c).1/\(KK.run k core env c).2.now <= k.now + 40008001) [bu x (KK.run k core env c).2]):=by
 intro h st;have n0:=kern_n0 st;have nb:=KK.begin_now n0.1 (by omega) core env c;refine sim_messuagelaw16_Run _ _ _ _ ?_;unfold rc;refine aW (i:=0) (sp_kern_Begin x k core env c (by omega)) rfl st fun r h1 hr s1=>?_;subst hr;refine ar (fun k1=>?_) (fun k1=>?_)
 ·have k1':(KK.begin_ k core env c).1 = false:=by simpa using k1
  have e:KK.run k core env c = ((⟨0,0⟩,false),(KK.begin_ k core env c).2):=if_pos k1';rw [e];exact aw ⟨rfl,by show (KK.begin_ k core env c).2.now <= _; omega⟩ s1
 ·have k1':(KK.begin_ k core env c).1 = true:=by simpa using k1
  exact run_tail x k core env c (KK.begin_ k core env c).2 (by rw [← k1']) (by omega) hn s1
end
section
open Go Mb
structure IE (k:KK):Prop where
 inv:dJ k
 ev:iy k
theorem ie_new {s:dc} (h:PK.sized s = true):IE (KK.new s):=⟨inv_new h,evinv_new s⟩
theorem IE.begin {k:KK} (A:IE k) (hn:k.now < 2 ^ 40) (core env:Int) {c:bv} (cw:Cw c):IE (KK.begin_ k core env c).2:=⟨A.inv.begin hn core env cw,A.ev.begin A.inv.ok hn core env c⟩
theorem IE.evict {k:KK} (A:IE k) (hn:k.now < 2 ^ 40) (c s w:Int):IE (KK.evict k c s w).2:=by
 have hI:=A.inv.evict hn c s w;have hw:=vJ A.inv.ok.n0 hn;have he:(KK.evict k c s w).2.events = k.events/\(KK.evict k c s w).2.p = k.p/\(KK.evict k c s w).2.calls = k.calls/\k.now <= (KK.evict k c s w).2.now:=by
  unfold KK.evict;split
  ·exact ⟨rfl,rfl,rfl,le_refl _⟩
  ·split
   ·exact ⟨rfl,rfl,rfl,le_refl _⟩
   ·exact ⟨rfl,rfl,rfl,by show k.now <= i64.wrap (k.now + 1); omega⟩
 exact ⟨hI,A.ev.same he.1 (by rw [he.2.1]) he.2.2.2 (fun c x h=>⟨x,by rw [← he.2.2.1]; exact h,rfl,rfl,rfl⟩) (fun c x h=>⟨x,by rw [he.2.2.1]; exact h,rfl⟩)⟩
theorem IE.post {k:KK} (A:IE k) (hn:k.now < 2 ^ 40) (c:Int):IE (KK.post k c).2:=by
 have hI:=A.inv.post hn c;have hw:=vJ A.inv.ok.n0 hn;have he:(KK.post k c).2.events = k.events/\(KK.post k c).2.p = k.p/\(KK.post k c).2.calls = k.calls/\k.now <= (KK.post k c).2.now:=by
  unfold KK.post;split
  ·exact ⟨rfl,rfl,rfl,le_refl _⟩
  ·split
   ·exact ⟨rfl,rfl,rfl,le_refl _⟩
   ·exact ⟨rfl,rfl,rfl,by show k.now <= i64.wrap (k.now + 1); omega⟩
 exact ⟨hI,A.ev.same he.1 (by rw [he.2.1]) he.2.2.2 (fun c x h=>⟨x,by rw [← he.2.2.1]; exact h,rfl,rfl,rfl⟩) (fun c x h=>⟨x,by rw [he.2.2.1]; exact h,rfl⟩)⟩
theorem do_wait {k:PK} {e:Int} {c:bv} (h:(PK.do_ k e c).1.2 = false):(PK.do_ k e c).2 = k:=by
 unfold PK.do_ at h ⊢;split
 ·rfl
 ·rename_i h1;rw [if_neg h1] at h;split
  ·rfl
  ·rename_i h2;rw [if_neg h2] at h;unfold PK.does PK.errs at h ⊢
   repeat' split
   all_goals first | rfl | (exfalso; simp_all; done)
theorem uX (k:KK) (c:Int) (x:KC):(KK.access k c x).2.events = k.events/\(KK.access k c x).2.now = k.now/\(KK.access k c x).2.p.s = k.p.s/\(KK.access k c x).2.calls = k.calls/\(KK.access k c x).2.fGa = k.fGa:=by
 unfold KK.access;split
 ·exact ⟨rfl,rfl,rfl,rfl,rfl⟩
 ·split
  ·exact ⟨rfl,rfl,rfl,rfl,rfl⟩
  ·exact ⟨rfl,rfl,touch_s _ _ _,rfl,rfl⟩
theorem work_ev {k:KK} (E:iy k) (hlate:∀ (i:Nat) e,k.events[i]? = some e->e.fTa < k.now/\e.fIa < k.now) {c:Nat} {x:KC} (hc:c < k.calls.length) (hcx:k.calls[c]? = some (some x)):iy (KK.work k c x):=by
 unfold KK.work;by_cases hu:aQ (am x.fc).1 = true
 ·rw [if_pos hu];obtain ⟨h1,h2,h3,h4,_⟩:=uX k c x;have E2:iy (KK.access k c x).2:=E.same h1 h3 (by rw [h2]; exact le_refl _) (fun d y h=>⟨y,by rw [← h4]; exact h,rfl,rfl,rfl⟩) (fun d y h=>⟨y,by rw [h4]; exact h,rfl⟩);exact E2.ends (by rw [h4]; exact hcx) (by rw [h1,h2]; exact hlate) _ _
 ·rw [if_neg hu];split
  ·refine E.same rfl rfl (le_refl _) (fun d y h=>?_) (fun d y h=>?_)
   ·simp only [KK.send,KK.clean,KK.tell,toNat_natCast,set_set] at h;rw [getElem?_set] at h;split at h
    ·rename_i e;refine ⟨x,e ▸ hcx,?_⟩;simp only [hc,if_true,Option.some.injEq] at h;rw [← h]; exact ⟨rfl,rfl,rfl⟩
    ·exact ⟨y,h,rfl,rfl,rfl⟩
   ·simp only [KK.send,KK.clean,KK.tell,toNat_natCast,set_set];rw [getElem?_set];by_cases e:c = d
    ·subst e;rw [hcx] at h;cases h;rw [if_pos rfl,if_pos hc];exact ⟨_,rfl,rfl⟩
    ·rw [if_neg e]; exact ⟨y,h,rfl⟩
  ·split
   ·exact E
   ·split
    ·have E2:iy { k with p:=(PK.do_ k.p x.fFa x.fc).2 }:=E.same rfl (do_s _ _ _) (le_refl _) (fun d y h=>⟨y,h,rfl,rfl,rfl⟩) (fun d y h=>⟨y,h,rfl⟩);exact E2.ends hcx hlate _ _
    ·rename_i hdone;rw [do_wait (by simpa using hdone)];exact E
theorem tick_now {k:KK} (ok:KK.Ok k) (hn:k.now < 2 ^ 40):(KK.tick k).now = k.now + 1:=vJ ok.n0 hn
theorem tick_ev {k:KK} (ok:KK.Ok k) (E:iy k) (hn:k.now < 2 ^ 40):iy (KK.tick k):=E.same rfl rfl (by rw [tick_now ok hn]; omega) (fun c x h=>⟨x,h,rfl,rfl,rfl⟩) (fun c x h=>⟨x,h,rfl⟩)
theorem tick_late {k:KK} (ok:KK.Ok k) (E:iy k) (hn:k.now < 2 ^ 40):∀ (i:Nat) e,(KK.tick k).events[i]? = some e->e.fTa < (KK.tick k).now/\e.fIa < (KK.tick k).now:=fun i e h=>by
 have o:=E.one i e h;rw [tick_now ok hn];have h1:=o.b1;have h0:=o.b0;rcases o.st with h2 | h2
 ·exact ⟨by omega,by rw [h2.1]; omega⟩
 ·exact ⟨by omega,by omega⟩
theorem IE.step {k:KK} (A:IE k) (hn:k.now < 2 ^ 40) (c:Int):IE (KK.step k c).2:=by
 refine ⟨A.inv.step hn c,?_⟩;unfold KK.step;split
 ·exact A.ev
 ·rename_i hb;obtain ⟨hi,x,hx⟩:=busy_is (by simpa using hb);rw [hx];obtain ⟨n,rfl,hlt⟩:=jD hi;exact work_ev (tick_ev A.inv.ok A.ev hn) (tick_late A.inv.ok A.ev hn) (by show n < k.calls.length; omega) (qi hx)
end
end Go.Proofs.YtjcamacgclipiaaGreatDoor
