/- Part of the proof of: The law KernEnds returns true for every input, and leaves its arguments as they were. -/
import Derived.Test.YtmggcfijlpldpaaGreatDoorKernEnds14
set_option linter.all false
set_option maxRecDepth 20000
namespace Go.Proofs.YtmggcfijlpldpaaGreatDoor
open Go Mb
abbrev vG (s:Sl) (xs:List Pte):As:=vec t_api_Pte 3 al.C s xs
theorem pte_one (p:Pte):dI p.C = true:=rfl
namespace Judge
def ev (es:List ce) (i:Int):ce:=es.getD i.toNat Hist.ev00
def takes (e:ce):Bool:=(aB e.fCall).1 == 7 || (aB e.fCall).1 == 8 || (aB e.fCall).1 == 4 || (aB e.fCall).1 == 5
def othersFrom (k:PK) (es:List ce) (env pg:Int):List Int→List Pte
  | []=>[]
  | i::l=>if takes (ev es i) = true then (PK.pte (PK.do_ k (ev es i).fEnv (ev es i).fCall).2 env pg).1::othersFrom k es env pg l else othersFrom k es env pg l
def others (k:PK) (es:List ce) (at_ env pg:Int):List Pte:=(PK.pte k env pg).1::othersFrom k es env pg (Hist.over es at_)
def faults (e:ce) (l:List Pte):Bool:=l.any fun p=>!(dq p.fRights (IntKind.i64.wrap e.fCall.e0))
def goes (e:ce) (l:List Pte):Bool:=l.any fun p=>(p.fFrame == e.fLine.fFrame) && (aT e.fLine.fRights p.fRights)
def own (e:ce):Bool:=((e.fLine.fEnv == e.fEnv) && (e.fLine.fPage == (IntKind.i64.wrap e.fCall.e1))) && (dq e.fLine.fRights (IntKind.i64.wrap e.fCall.e0))
def access (k:PK) (es:List ce) (s:io) (e:ce):Bool :=
  if Word.check e.fCall s.fEnvs ≠ 0 then (ac.eqb e.fAnswer ⟨Word.check e.fCall s.fEnvs,0⟩) && (am.eqb e.fLine kC)
  else if e.fAnswer.fErr = 7 then (faults e (others k es e.fEffect e.fEnv (IntKind.i64.wrap e.fCall.e1)) && (e.fAnswer.fVal == 0)) && (am.eqb e.fLine kC)
  else ((goes e (others k es e.fEffect e.fEnv (IntKind.i64.wrap e.fCall.e1)) && own e) && (PK.touch k e.fLine.fFrame e.fCall).1.2) && (ac.eqb (PK.touch k e.fLine.fFrame e.fCall).1.1 e.fAnswer)
def well (s:io) (e:ce):Bool:=(e.fAnswer.fErr == 0) && (Word.check e.fCall s.fEnvs == 0) && (e.fLine.fRights != 0)
def runFrom (es:List ce) (s:io) (lin acc:Bool):PK→List Int→Int × Bool
  | _,[]=>(-1,true)
  | k,i::l =>
    if qj (ev es i) = true then (if acc = true∧access k es s (ev es i) = false then (i,false) else runFrom es s lin acc (if well s (ev es i) = true then (PK.touch k (ev es i).fLine.fFrame (ev es i).fCall).2 else k) l)
    else if lin = true∧((PK.do_ k (ev es i).fEnv (ev es i).fCall).1.2 = false∨ac.eqb (PK.do_ k (ev es i).fEnv (ev es i).fCall).1.1 (ev es i).fAnswer = false) then (i,false)
    else runFrom es s lin acc (PK.do_ k (ev es i).fEnv (ev es i).fCall).2 l
def run (es:List ce) (s:io) (lin acc:Bool):Int × Bool:=if Hist.may es s = true then runFrom es s lin acc (PK.new s) (Hist.order es) else (-1,false)
def linear (es:List ce) (s:io):Int × Bool:=run es s true false
def accesses (es:List ce) (s:io):Int × Bool:=run es s false true
def right (es:List ce) (s:io):Bool:=(linear es s).2 && (accesses es s).2
theorem ev_nat {es:List ce} {n:Nat} (h:n < es.length):ev es n = es[n]:=by simp [ev,h]
theorem othersFrom_app (k:PK) (es:List ce) (env pg:Int) (i:Int):∀ l,othersFrom k es env pg (l++[i]) = othersFrom k es env pg l++(if takes (ev es i) = true then [(PK.pte (PK.do_ k (ev es i).fEnv (ev es i).fCall).2 env pg).1] else [])
  | []=>by simp only [List.nil_append,othersFrom]
  | j::l=>by
    simp only [List.cons_append,othersFrom,othersFrom_app k es env pg i l]
    split <;> simp
theorem othersFrom_len (k:PK) (es:List ce) (env pg:Int):∀ l,(othersFrom k es env pg l).length ≤ l.length
  | []=>Nat.le_refl _
  | i::l=>by unfold othersFrom; have:=othersFrom_len k es env pg l; split <;> simp <;> omega
end Judge
abbrev jc (s:Sl) (z:io) (pk:Ptr):List Value:=[sv s,.int .i64 z.fCores,.int .i64 z.fEnvs,.int .i64 z.fFrames,pv pk]
theorem sp_judge_others (jb:Nat) (s:Sl) (z:io) (pk:Ptr) (es:List ce) (k:PK) (a env pg:Int) (hb:es.length < 2 ^ 38) :
    Sp Tryz.prog lu [pv (some (jb,0)),.int .i64 a,.int .i64 env,.int .i64 pg] qi [blk jb di (jc s z pk),vE s es,bo pk k] (fun r=>aG [vG r (Judge.others k es a env pg),blk jb di (jc s z pk),vE s es,bo pk k]):=by
  intro h s0
  refine wG _ _ _ _ ?_
  unfold pB
  refine cy (bk pk s0 (i:=0) rfl rfl rfl ?_)
  refine bM (rR pk k env pg) (i:=2) rfl s0 fun r h1 hr s1=>?_
  subst hr
  refine fy (τ:=Pte) [(PK.pte k env pg).1] (val:=fun x=>.agg x.C.toArray) (enc:=al.C) el_Sapi_Pte jm (fun _=>rfl) s1 rfl rfl (by simp) fun v h2 s2=>?_
  refine bk s s2 (i:=1) rfl rfl rfl ?_
  refine xw (sp_hist_Over s es a hb) (i:=2) rfl s2 fun r37 h3 s3=>?_
  have hrl:=(cf (j:=0) s3 rfl).1
  have hol:=Hist.placesFrom_len (fun e=>decide (e.fBegin ≤ a) && (e.fEffect == 0 || decide (e.fEffect > a))) es 0
  have hol':(Hist.over es a).length ≤ es.length:=hol
  refine Lp.intro (fun (y:Sl × Int) h=>∃ n:Nat,y.2 = n∧n ≤ (Hist.over es a).length∧aG [vI r37 (Hist.over es a),vG y.1 ((PK.pte k env pg).1::Judge.othersFrom k es env pg ((Hist.over es a).take n)),blk jb di (jc s z pk),vE s es,bo pk k] h) (fun (y:Sl × Int) _=>(Hist.over es a).length - y.2.toNat) ⟨0,rfl,Nat.zero_le _,s3⟩ ?_
  rintro ⟨y,i⟩ h ⟨n,rfl,hn,s4⟩
  unfold kD
  refine aX (fun d=>?_) (fun d=>?_)
  · have hlt:n < (Hist.over es a).length:=by rw [hrl] at d; have:=of_decide_eq_true d; simp at this; exact this
    have hw:IntKind.i64.wrap ((n:Int) + 1) = ((n + 1:Nat):Int):=by rw [bP (by omega) (by omega)]; rfl
    have ht:(Hist.over es a).take (n + 1) = (Hist.over es a).take n++[(Hist.over es a)[n]]:=by simp
    have hin:=Hist.places_in (List.getElem_mem hlt)
    have hes:=(cf (j:=3) s4 rfl).1
    obtain ⟨m,hm⟩:=Int.eq_ofNat_of_zero_le hin.1
    have hml:m < es.length:=by omega
    have hev:Judge.ev es (Hist.over es a)[n] = es[m]:=by rw [hm,Judge.ev_nat hml]
    have happ:=Judge.othersFrom_app k es env pg (Hist.over es a)[n] ((Hist.over es a).take n)
    rw [hev] at happ
    have hfl:=Judge.othersFrom_len k es env pg ((Hist.over es a).take n)
    simp at hfl
    refine dw s4 (j:=0) rfl (by omega) (by show (n:Int) < _; omega) fun q hq=>?_
    refine eo (j:=0) (i:=n) (k:=0) (Hist.over es a)[n] (de _) s4 rfl hq (by simp) (aE hlt) (by simp) ?_
    rw [hm]
    refine bk s s4 (i:=2) rfl rfl rfl ?_
    refine dw s4 (j:=3) rfl (by omega) (by omega) fun q2 hq2=>?_
    refine eo (j:=3) (i:=m) (k:=0) es[m] mC s4 rfl hq2 rfl (aE hml) (by simp) ?_
    have j1:∀ b,b = Judge.takes es[m]→dR env pg (jb,0) (fun s' h'=>(∃ n:Nat,s'.2 = n∧n ≤ (Hist.over es a).length∧aG [vI r37 (Hist.over es a),vG s'.1 ((PK.pte k env pg).1::Judge.othersFrom k es env pg ((Hist.over es a).take n)),blk jb di (jc s z pk),vE s es,bo pk k] h')∧(Hist.over es a).length - s'.2.toNat < (Hist.over es a).length - (n:Int).toNat) (y,(n:Int)) es[m] b h:=by
      intro b hb2
      unfold dR
      rw [hb2,hw]
      refine aX (fun d2=>?_) (fun d2=>?_)
      · refine bk pk s4 (i:=2) rfl rfl rfl ?_
        refine xw (uI pk k) (i:=4) rfl s4 fun r66 h5 s5=>?_
        refine bM (jI r66 k es[m].fEnv es[m].fCall) (i:=0) rfl s5 fun r h6 hr s6=>?_
        refine bM (rR r66 _ env pg) (i:=0) rfl s6 fun r h7 hr s7=>?_
        subst hr
        refine ku (τ:=Pte) (i:=2) (enc:=al.C) (val:=fun x=>.agg x.C.toArray) el_Sapi_Pte jm pte_one (fun _=>rfl) (by omega) rfl rfl s7 rfl (by simp; omega) (by simp; omega) fun v h8 s8=>?_
        refine ⟨⟨n + 1,rfl,hlt,?_⟩,by simp; omega⟩
        rw [ht,happ,if_pos d2]
        exact cc (l:=[bo r66 _]) s8
      · refine ⟨⟨n + 1,rfl,hlt,?_⟩,by simp; omega⟩
        rw [ht,happ,if_neg (by rw [d2]; exact Bool.false_ne_true),List.append_nil]
        exact s4
    refine aX (fun c=>j1 _ (by unfold Judge.takes; rw [c]; rfl)) (fun c=>?_)
    refine aX (fun c2=>j1 _ (by unfold Judge.takes; rw [c,c2]; rfl)) (fun c2=>?_)
    refine aX (fun c3=>j1 _ (by unfold Judge.takes; rw [c,c2,c3]; rfl)) (fun c3=>j1 _ (by unfold Judge.takes; rw [c,c2,c3]; rfl))
  · have:n = (Hist.over es a).length:=by rw [hrl] at d; have:=of_decide_eq_false d; simp at this; omega
    subst this
    rw [List.take_length] at s4
    exact cc (l:=[vI r37 (Hist.over es a)]) s4
theorem any_snoc {α:Type} (f:α→Bool) (l:List α) (x:α):(l++[x]).any f = (l.any f || f x):=by simp
theorem sp_judge_access (jb:Nat) (s:Sl) (z:io) (pk:Ptr) (es:List ce) (k:PK) (e:ce) (hb:es.length < 2 ^ 38) :
    Sp Tryz.prog lv [pv (some (jb,0)),.agg e.C.toArray] aA [blk jb di (jc s z pk),vE s es,bo pk k] (fun r=>pa_ (r = Judge.access k es z e) [blk jb di (jc s z pk),vE s es,bo pk k]):=by
  intro h s0
  refine wH _ _ ?_
  unfold pC
  refine cy (bk z.fEnvs s0 (i:=0) rfl rfl rfl ?_)
  refine tP (jg e.fCall z.fEnvs) s0 fun r h1 hr s1=>?_
  subst hr
  refine aX (fun d=>?_) (fun d=>?_)
  · exact aW (by unfold Judge.access; rw [if_pos (by simpa using d)]) s1
  · have d':¬ Word.check e.fCall z.fEnvs ≠ 0:=by simpa using d
    refine cO [0,0,0] (sp_judge_others jb s z pk es k e.fEffect e.fEnv (IntKind.i64.wrap e.fCall.e1) hb) s1 rfl fun r50 h2 s2=>?_
    have s3:=dC s2
    have hrl:=(cf (j:=0) s3 rfl).1
    have hol':(Hist.over es e.fEffect).length ≤ es.length:=Hist.placesFrom_len _ es 0
    have hfl:=Judge.othersFrom_len k es e.fEnv (IntKind.i64.wrap e.fCall.e1) (Hist.over es e.fEffect)
    have hll:(Judge.others k es e.fEffect e.fEnv (IntKind.i64.wrap e.fCall.e1)).length < 2 ^ 39:=by unfold Judge.others; simp; omega
    generalize hL:Judge.others k es e.fEffect e.fEnv (IntKind.i64.wrap e.fCall.e1) = L at *
    refine Lp.intro (fun (y:Bool × Bool × Int) h=>∃ n:Nat,y.2.2 = n∧n ≤ L.length∧y.1 = Judge.faults e (L.take n)∧y.2.1 = Judge.goes e (L.take n)∧aG [vG r50 L,blk jb di (jc s z pk),vE s es,bo pk k] h) (fun (y:Bool × Bool × Int) _=>L.length - y.2.2.toNat) ⟨0,rfl,Nat.zero_le _,rfl,rfl,s3⟩ ?_
    rintro ⟨f,g,i⟩ h ⟨n,rfl,hn,hf,hg,s4⟩
    simp only at hf hg
    unfold kE
    refine aX (fun d2=>?_) (fun d2=>?_)
    · have hlt:n < L.length:=by rw [hrl] at d2; have:=of_decide_eq_true d2; simp at this; exact this
      have hw:IntKind.i64.wrap ((n:Int) + 1) = ((n + 1:Nat):Int):=by rw [bP (by omega) (by omega)]; rfl
      have ht:L.take (n + 1) = L.take n++[L[n]]:=by simp
      refine dw s4 (j:=0) rfl (by show (0:Int) ≤ n; omega) (by show (n:Int) < _; omega) fun q hq=>?_
      refine eo (j:=0) (i:=n) (k:=0) L[n] jm s4 rfl hq rfl (aE hlt) (by simp) ?_
      rw [hw]
      refine ⟨⟨n + 1,rfl,hlt,?_,?_,s4⟩,by simp; omega⟩
      · unfold Judge.faults; rw [ht,any_snoc]; show (f || _) = _; rw [hf]; rfl
      · unfold Judge.goes; rw [ht,any_snoc]; show (g || _) = _; rw [hg]; rfl
    · have:n = L.length:=by rw [hrl] at d2; have:=of_decide_eq_false d2; simp at this; omega
      subst this
      rw [List.take_length] at hf hg
      have s5:=cc (l:=[vG r50 L]) s4
      refine aX (fun d3=>?_) (fun d3=>?_)
      · refine aW ?_ s5
        unfold Judge.access
        rw [if_neg d',if_pos (by simpa using d3),hL,← hf]
      · refine bk pk s4 (i:=1) rfl rfl rfl ?_
        refine xw (uI pk k) (i:=2) rfl s5 fun r104 h6 s6=>?_
        refine bM (oh r104 k e.fLine.fFrame e.fCall) (i:=0) rfl s6 fun r h7 hr s7=>?_
        subst hr
        refine aW ?_ (cc (l:=[bo r104 _]) s7)
        unfold Judge.access
        rw [if_neg d',if_neg (by simpa using d3),hL,← hg]
        rfl
theorem sp_judge_well (jb:Nat) (s:Sl) (z:io) (pk:Ptr) (e:ce) :
    Sp Tryz.prog nr [pv (some (jb,0)),.agg e.C.toArray] aA [blk jb di (jc s z pk)] (fun r=>pa_ (r = Judge.well z e) [blk jb di (jc s z pk)]):=by
  intro h s0
  refine sim_judge_judge_well _ _ ?_
  unfold rH
  refine aX (fun d=>?_) (fun d=>?_)
  · refine cy (bk z.fEnvs s0 (i:=0) rfl rfl rfl ?_)
    refine tP (jg e.fCall z.fEnvs) s0 fun r h1 hr s1=>?_
    subst hr
    refine aX (fun d2=>?_) (fun d2=>?_)
    · exact aW (by unfold Judge.well; rw [d,d2]; rfl) s1
    · exact aW (by unfold Judge.well; rw [d,d2]; rfl) s1
  · exact aW (by unfold Judge.well; rw [d]; rfl) s0
abbrev OrdOk (s:Sl) (es:List ce):Prop:=Sp Tryz.prog oN [sv s] cA [vE s es] (fun r=>aG [vI r (Hist.order es),vE s es])
theorem order_in {es:List ce} {x:Int} (h:x ∈ Hist.order es):0 ≤ x∧x < es.length:=Hist.places_in ((Hist.isort_perm _ _).subset h)
theorem order_len (es:List ce):(Hist.order es).length ≤ es.length:=by
  have h1:=(Hist.isort_perm (Hist.eff es) (Hist.effs es)).length_eq
  have h2:=Hist.placesFrom_len (fun e=>decide (e.fEffect > 0)) es 0
  unfold Hist.order; rw [h1]; exact h2
theorem sp_judge_run (s:Sl) (es:List ce) (z:io) (lin acc:Bool) (hz:PK.sized z = true) (hb:es.length < 2 ^ 38) (ho:Hist.Apart es→OrdOk s es) :
    Sp Tryz.prog ux [sv s,.agg z.C.toArray,.bool lin,.bool acc] bK [vE s es] (fun r=>pa_ (r = Judge.run es z lin acc) [vE s es]):=by
  intro h s0
  refine sim_judge_run _ _ _ _ ?_
  unfold sh_judge_run
  refine bM (sp_hist_May s es z hb) (i:=0) rfl s0 fun r h1 hr s1=>?_
  subst hr
  refine aX (fun d=>?_) (fun d=>?_)
  · exact aW (by unfold Judge.run; rw [if_neg (by simpa using d)]) s1
  · have d':Hist.may es z = true:=by simpa using d
    have er:Judge.run es z lin acc = Judge.runFrom es z lin acc (PK.new z) (Hist.order es):=if_pos d'
    rw [er]
    refine mf (rS z hz) s1 fun pk h2 s2=>?_
    refine pf s2 fun b25 h3 s3=>?_
    refine xw (ho (Hist.may_apart d')) (i:=2) rfl s3 fun r27 h4 s4=>?_
    have hol:=order_len es
    have hrl:=(cf (j:=0) s4 rfl).1
    refine Lp.intro (fun (i:Int) h=>∃ (n:Nat) (k:PK),i = n∧n ≤ (Hist.order es).length∧Judge.runFrom es z lin acc k ((Hist.order es).drop n) = Judge.runFrom es z lin acc (PK.new z) (Hist.order es)∧aG [vI r27 (Hist.order es),blk b25 di (jc s z pk),bo pk k,vE s es] h) (fun (i:Int) _=>(Hist.order es).length - i.toNat) ⟨0,_,rfl,Nat.zero_le _,rfl,s4⟩ ?_
    rintro i h ⟨n,k,rfl,hn,he,s5⟩
    have fin:∀ h,aG [vI r27 (Hist.order es),blk b25 di (jc s z pk),bo pk k,vE s es] h→aG [vE s es] h:=fun h s=>cc (l:=[_,_,_]) s
    unfold xe
    refine aX (fun d2=>?_) (fun d2=>?_)
    · have hlt:n < (Hist.order es).length:=by rw [hrl] at d2; simpa using d2
      have hw:IntKind.i64.wrap ((n:Int) + 1) = ((n + 1:Nat):Int):=by rw [bP (by omega) (by omega)]; rfl
      have hin:=order_in (List.getElem_mem hlt)
      have hes:=(cf (j:=3) s5 rfl).1
      obtain ⟨m,hm⟩:=Int.eq_ofNat_of_zero_le hin.1
      have hml:m < es.length:=by omega
      have hev:Judge.ev es (Hist.order es)[n] = es[m]:=by rw [hm,Judge.ev_nat hml]
      rw [List.drop_eq_getElem_cons hlt,Judge.runFrom,hev] at he
      refine dw s5 (j:=0) rfl (by omega) (by omega) fun q hq=>?_
      refine eo (j:=0) (i:=n) (k:=0) (Hist.order es)[n] (de _) s5 rfl hq (by simp) (aE hlt) (by simp) ?_
      rw [hm]
      refine dw s5 (j:=3) rfl (by omega) (by omega) fun q2 hq2=>?_
      refine eo (j:=3) (i:=m) (k:=0) es[m] mC s5 rfl hq2 rfl (aE hml) (by simp) ?_
      have hmi:((m:Int),false) = ((Hist.order es)[n],false):=by rw [hm]
      refine aX (fun d3=>?_) (fun d3=>?_)
      · rw [if_pos d3] at he
        have j1:∀ h,(acc = true∧Judge.access k es z es[m] = false) = False→aG [vI r27 (Hist.order es),blk b25 di (jc s z pk),bo pk k,vE s es] h→sg b25 (fun s' h'=>(∃ (n:Nat) (k:PK),s' = n∧n ≤ (Hist.order es).length∧Judge.runFrom es z lin acc k ((Hist.order es).drop n) = Judge.runFrom es z lin acc (PK.new z) (Hist.order es)∧aG [vI r27 (Hist.order es),blk b25 di (jc s z pk),bo pk k,vE s es] h')∧(Hist.order es).length - s'.toNat < (Hist.order es).length - (n:Int).toNat) (n:Int) es[m] () h:=by
          intro h hno s6
          rw [if_neg (by rw [hno]; exact not_false)] at he
          unfold sg
          refine bM (sp_judge_well b25 s z pk es[m]) (i:=1) rfl s6 fun r h7 hr s7=>?_
          subst hr
          rw [hw]
          refine aX (fun d4=>?_) (fun d4=>?_)
          · rw [if_pos d4] at he
            refine bk pk s7 (i:=1) rfl rfl rfl ?_
            refine bM (oh pk k es[m].fLine.fFrame es[m].fCall) (i:=2) rfl s7 fun r h8 hr s8=>?_
            exact ⟨⟨n + 1,_,rfl,hlt,he,s8⟩,by simp; omega⟩
          · rw [if_neg (by rw [d4]; exact Bool.false_ne_true)] at he
            exact ⟨⟨n + 1,_,rfl,hlt,he,s7⟩,by simp; omega⟩
        unfold sf
        refine aX (fun d4=>?_) (fun d4=>?_)
        · refine cO [1,2,1] (sp_judge_access b25 s z pk es k es[m] hb) s5 rfl fun r h6 s6=>?_
          obtain ⟨hr,s7⟩:=bt.1 s6
          subst hr
          have s8:aG [vI r27 (Hist.order es),blk b25 di (jc s z pk),bo pk k,vE s es] h6:=bb [3,0,1] s7 rfl
          refine aX (fun d5=>?_) (fun d5=>?_)
          · rw [if_pos ⟨d4,by simpa using d5⟩] at he
            exact aW (by rw [← he,hm]) (fin _ s8)
          · exact j1 h6 (by simp; intro _; simpa using d5) s8
        · refine dB rfl ?_
          exact j1 h (by rw [d4]; simp) s5
      · rw [if_neg (by rw [d3]; exact Bool.false_ne_true)] at he
        refine bk pk s5 (i:=1) rfl rfl rfl ?_
        refine bM (jI pk k es[m].fEnv es[m].fCall) (i:=2) rfl s5 fun r h6 hr s6=>?_
        subst hr
        refine aX (fun d4=>?_) (fun d4=>?_)
        · have d4':lin = true∧((PK.do_ k es[m].fEnv es[m].fCall).1.2 = false∨ac.eqb (PK.do_ k es[m].fEnv es[m].fCall).1.1 es[m].fAnswer = false):=by simpa using d4
          rw [if_pos d4'] at he
          exact aW (by rw [← he,hm]) (cc (l:=[_,_,_]) s6)
        · have d4':¬ (lin = true∧((PK.do_ k es[m].fEnv es[m].fCall).1.2 = false∨ac.eqb (PK.do_ k es[m].fEnv es[m].fCall).1.1 es[m].fAnswer = false)):=by simpa using d4
          rw [if_neg d4'] at he
          rw [hw]
          exact ⟨⟨n + 1,_,rfl,hlt,he,s6⟩,by simp; omega⟩
    · have:n = (Hist.order es).length:=by rw [hrl] at d2; simp at d2; omega
      subst this
      rw [List.drop_length] at he
      exact aW he (fin h s5)
section
variable (s:Sl) (es:List ce) (z:io) (hz:PK.sized z = true) (hb:es.length < 2 ^ 38) (ho:Hist.Apart es→OrdOk s es)
include hz hb ho
theorem sp_judge_Linear:Sp Tryz.prog oL [sv s,.agg z.C.toArray] bK [vE s es] (fun r=>pa_ (r = Judge.linear es z) [vE s es]):=by
  intro h s0
  refine sim_judge_Linear _ _ ?_
  unfold sh_judge_Linear
  exact bM (sp_judge_run s es z true false hz hb ho) (i:=0) rfl s0 fun r h1 hr s1=>aW hr s1
theorem sp_judge_Access:Sp Tryz.prog oM [sv s,.agg z.C.toArray] bK [vE s es] (fun r=>pa_ (r = Judge.accesses es z) [vE s es]):=by
  intro h s0
  refine sim_judge_Access _ _ ?_
  unfold sh_judge_Access
  exact bM (sp_judge_run s es z false true hz hb ho) (i:=0) rfl s0 fun r h1 hr s1=>aW hr s1
theorem sp_judge_Right:Sp Tryz.prog uP [sv s,.agg z.C.toArray] aA [vE s es] (fun r=>pa_ (r = Judge.right es z) [vE s es]):=by
  intro h s0
  refine sim_judge_Right _ _ ?_
  unfold sh_judge_Right
  refine bM (sp_judge_Linear s es z hz hb ho) (i:=0) rfl s0 fun r h1 hr s1=>?_
  subst hr
  exact bM (sp_judge_Access s es z hz hb ho) (i:=0) rfl s1 fun r h2 hr s2=>aW (by rw [hr]; rfl) s2
end
end Go.Proofs.YtmggcfijlpldpaaGreatDoor
namespace Go.Proofs.YtmggcfijlpldpaaGreatDoor
open Go Mb
structure Ev1 (k:KK) (e:ce):Prop where
  c0:0 ≤ e.fCore
  c1:e.fCore < k.p.s.fCores
  v0:0 ≤ e.fEnv
  v1:e.fEnv < k.p.s.fEnvs
  b0:1 ≤ e.fBegin
  b1:e.fBegin ≤ k.now
  st:(e.fEffect = 0∧e.fEnd = 0)∨(e.fBegin < e.fEffect∧e.fEnd = e.fEffect∧e.fEffect ≤ k.now)
structure pJ (k:KK):Prop where
  one:∀ (i:Nat) e,k.events[i]? = some e→Ev1 k e
  up:∀ (i j:Nat) d e,i < j→k.events[i]? = some d→k.events[j]? = some e→d.fBegin < e.fBegin
  ef:∀ (i j:Nat) d e,k.events[i]? = some d→k.events[j]? = some e→d.fEffect > 0→d.fEffect = e.fEffect→i = j
  co:∀ (i j:Nat) d e,i < j→k.events[i]? = some d→k.events[j]? = some e→d.fCore = e.fCore→d.fEnd > 0∧d.fEnd < e.fBegin
  call:∀ (c:Nat) x,k.calls[c]? = some (some x)→∃ n:Nat,x.fat = n∧∃ e,k.events[n]? = some e∧e.fCore = c∧e.fEnv = x.fenv∧e.fCall = x.fc∧e.fEffect = 0
  open_:∀ (i:Nat) e,k.events[i]? = some e→e.fEffect = 0→∃ x,k.calls[e.fCore.toNat]? = some (some x)∧x.fat = i
theorem evinv_new (s:io):pJ (KK.new s):=by
  have hn:∀ i:Nat,(KK.new s).events[i]? = none:=fun i=>by simp [KK.new]
  refine ⟨fun i e h=>?_,fun i j d e _ h _=>?_,fun i j d e h _ _ _=>?_,fun i j d e _ h _ _=>?_,fun c x h=>absurd h (rY s c x),fun i e h _=>?_⟩ <;> (rw [hn] at h; cases h)
theorem Ev1.later {k k':KK} {e:ce} (h:Ev1 k e) (hs:k'.p.s = k.p.s) (hn:k.now ≤ k'.now):Ev1 k' e :=
  ⟨h.c0,by rw [hs]; exact h.c1,h.v0,by rw [hs]; exact h.v1,h.b0,by have:=h.b1; omega,by rcases h.st with a | a; exact .inl a; exact .inr ⟨a.1,a.2.1,by omega⟩⟩
theorem pJ.same {k k':KK} (E:pJ k) (he:k'.events = k.events) (hs:k'.p.s = k.p.s) (hn:k.now ≤ k'.now) (h1:∀ (c:Nat) x,k'.calls[c]? = some (some x)→∃ y,k.calls[c]? = some (some y)∧y.fat = x.fat∧y.fenv = x.fenv∧y.fc = x.fc) (h2:∀ (c:Nat) x,k.calls[c]? = some (some x)→∃ y,k'.calls[c]? = some (some y)∧y.fat = x.fat):pJ k':=by
  refine ⟨fun i e h=>?_,fun i j d e hij h h'=>?_,fun i j d e h h'=>?_,fun i j d e hij h h'=>?_,fun c x hx=>?_,fun i e h h0=>?_⟩
  · rw [he] at h; exact (E.one i e h).later hs hn
  · rw [he] at h h'; exact E.up i j d e hij h h'
  · rw [he] at h h'; exact E.ef i j d e h h'
  · rw [he] at h h'; exact E.co i j d e hij h h'
  · obtain ⟨y,hy,e1,e2,e3⟩:=h1 c x hx
    obtain ⟨n,hn1,e,g1,g2,g3,g4,g5⟩:=E.call c y hy
    exact ⟨n,e1 ▸ hn1,e,by rw [he]; exact g1,g2,e2 ▸ g3,e3 ▸ g4,g5⟩
  · rw [he] at h
    obtain ⟨x,hx,e1⟩:=E.open_ i e h h0
    obtain ⟨y,hy,e2⟩:=h2 _ x hx
    exact ⟨y,hy,e2.trans e1⟩
theorem pJ.begin {k:KK} (E:pJ k) (ok:KK.Ok k) (hn:k.now < 2 ^ 40) (core env:Int) (c:dn):pJ (KK.begin_ k core env c).2:=by
  unfold KK.begin_
  split
  · exact E
  · rename_i h
    simp only [not_or,Bool.not_eq_false,Bool.not_eq_true] at h
    obtain ⟨hi,hb,h0,h1⟩:=h
    obtain ⟨n,rfl,hlt⟩:=nZ hi
    have hnone:k.calls[n]? = some none:=by
      cases hx:k.calls[n]? with
      | none=>rw [List.getElem?_eq_getElem hlt] at hx; cases hx
      | some o =>
        cases o with
        | none=>rfl
        | some x =>
          exfalso
          unfold KK.busy at hb
          rw [hi] at hb
          have:KK.call k n = some x:=by unfold KK.call; rw [Int.toNat_natCast,List.getD_eq_getElem?_getD,hx]; rfl
          rw [this] at hb; cases hb
    have hw:=wrapN ok.n0 hn
    have hcl:=ok.cl
    rw [hw]
    have get:∀ (i:Nat) e,(k.events++[KK.ev0 n env c (k.now + 1)])[i]? = some e→(i < k.events.length∧k.events[i]? = some e)∨(i = k.events.length∧e = KK.ev0 n env c (k.now + 1)):=by
      intro i e he
      rcases Nat.lt_or_ge i k.events.length with h | h
      · rw [List.getElem?_append_left h] at he; exact .inl ⟨h,he⟩
      · rw [List.getElem?_append_right h] at he
        by_cases e0:i - k.events.length = 0
        · rw [e0] at he
          exact .inr ⟨by omega,by simpa using he.symm⟩
        · rw [List.getElem?_eq_none (by simp; omega)] at he; cases he
    have mk:∀ e,Ev1 k e→Ev1 { k with now:=k.now + 1,events:=k.events++[KK.ev0 n env c (k.now + 1)],calls:=k.calls.set n (some ⟨k.events.length,env,c,false,0⟩) } e:=fun e h=>h.later rfl (by show k.now ≤ k.now + 1; omega)
    have cget:∀ (a:Nat) x,(k.calls.set n (some (⟨k.events.length,env,c,false,0⟩:KC)))[a]? = some (some x)→(a = n∧x = ⟨k.events.length,env,c,false,0⟩)∨(a ≠ n∧k.calls[a]? = some (some x)):=by
      intro a x hx
      rw [List.getElem?_set] at hx
      by_cases e:n = a
      · rw [if_pos e,if_pos hlt] at hx
        exact .inl ⟨e.symm,by simpa using hx.symm⟩
      · rw [if_neg e] at hx; exact .inr ⟨fun h=>e h.symm,hx⟩
    refine ⟨fun i e he=>?_,fun i j d e hij hd he=>?_,fun i j d e hd he hp heq=>?_,fun i j d e hij hd he hc=>?_,fun a x hx=>?_,fun i e he h00=>?_⟩
    · rcases get i e he with ⟨_,h⟩ | ⟨_,rfl⟩
      · exact mk e (E.one i e h)
      · exact ⟨by show (0:Int) ≤ n; omega,by show (n:Int) < k.p.s.fCores; omega,by show 0 ≤ env; omega,by show env < k.p.s.fEnvs; omega,by show 1 ≤ k.now + 1; have:=ok.n0; omega,Int.le_refl _,.inl ⟨rfl,rfl⟩⟩
    · rcases get j e he with ⟨hj,h⟩ | ⟨hj,rfl⟩
      · rcases get i d hd with ⟨_,h'⟩ | ⟨hi',_⟩
        · exact E.up i j d e hij h' h
        · omega
      · rcases get i d hd with ⟨_,h'⟩ | ⟨hi',_⟩
        · have:=(E.one i d h').b1
          show d.fBegin < k.now + 1; omega
        · omega
    · rcases get i d hd with ⟨_,h'⟩ | ⟨_,rfl⟩
      · rcases get j e he with ⟨_,h⟩ | ⟨_,rfl⟩
        · exact E.ef i j d e h' h hp heq
        · have:(KK.ev0 n env c (k.now + 1)).fEffect = 0:=rfl
          omega
      · have:(KK.ev0 n env c (k.now + 1)).fEffect = 0:=rfl
        omega
    · rcases get j e he with ⟨hj,h⟩ | ⟨hj,rfl⟩
      · rcases get i d hd with ⟨_,h'⟩ | ⟨hi',_⟩
        · exact E.co i j d e hij h' h hc
        · omega
      · rcases get i d hd with ⟨_,h'⟩ | ⟨hi',_⟩
        · have o:=E.one i d h'
          have hcc:d.fCore = n:=hc
          have hb1:=o.b1
          rcases o.st with s1 | s1
          · exfalso
            obtain ⟨x,hx,_⟩:=E.open_ i d h' s1.1
            rw [hcc,Int.toNat_natCast,hnone] at hx
            cases hx
          · have:=o.b0
            exact ⟨by omega,by show d.fEnd < k.now + 1; omega⟩
        · omega
    · rcases cget a x hx with ⟨rfl,rfl⟩ | ⟨_,h⟩
      · exact ⟨k.events.length,rfl,KK.ev0 a env c (k.now + 1),by simp,rfl,rfl,rfl,rfl⟩
      · obtain ⟨m,h2,e,g1,g2⟩:=E.call a x h
        refine ⟨m,h2,e,?_,g2⟩
        show (k.events++[_])[m]? = _
        rw [List.getElem?_append_left (List.getElem?_eq_some_iff.1 g1).1]; exact g1
    · rcases get i e he with ⟨_,h⟩ | ⟨hi',rfl⟩
      · obtain ⟨x,hx,e1⟩:=E.open_ i e h h00
        refine ⟨x,?_,e1⟩
        show (k.calls.set n _)[e.fCore.toNat]? = _
        rw [List.getElem?_set,if_neg]
        · exact hx
        · rintro e2
          rw [← e2,hnone] at hx; cases hx
      · refine ⟨⟨k.events.length,env,c,false,0⟩,?_,by rw [hi']⟩
        show (k.calls.set n _)[(n:Int).toNat]? = _
        simp [hlt]
theorem pJ.ends {k:KK} (E:pJ k) {c:Nat} {x:KC} (hx:k.calls[c]? = some (some x)) (hlate:∀ (i:Nat) e,k.events[i]? = some e→e.fBegin < k.now∧e.fEffect < k.now) (a:fG) (l:mh):pJ (KK.ends k c x a l):=by
  obtain ⟨n,hn,e0,g1,g2,g3,g4,g5⟩:=E.call c x hx
  have hlt:=(List.getElem?_eq_some_iff.1 g1).1
  have hev:(KK.ends k c x a l).events = k.events.set n (KK.evend e0 k.now a l):=by
    unfold KK.ends
    rw [hn]
    simp only [Int.toNat_natCast,List.getD_eq_getElem?_getD,g1,Option.getD_some]
  have get:∀ (i:Nat) e,(k.events.set n (KK.evend e0 k.now a l))[i]? = some e→(i ≠ n∧k.events[i]? = some e)∨(i = n∧e = KK.evend e0 k.now a l):=by
    intro i e he
    rw [List.getElem?_set] at he
    by_cases h:n = i
    · rw [if_pos h,if_pos hlt] at he
      exact .inr ⟨h.symm,by simpa using he.symm⟩
    · rw [if_neg h] at he; exact .inl ⟨fun h'=>h h'.symm,he⟩
  have o0:=E.one n e0 g1
  have l0:=hlate n e0 g1
  have cls:(KK.ends k c x a l).calls = k.calls.set c none:=by simp [KK.ends]
  have cget:∀ (b:Nat) y,(k.calls.set c none)[b]? = some (some y)→b ≠ c∧k.calls[b]? = some (some y):=by
    intro b y hy
    rw [List.getElem?_set] at hy
    by_cases e:c = b
    · rw [if_pos e] at hy
      split at hy
      · cases hy
      · cases hy
    · rw [if_neg e] at hy; exact ⟨fun h=>e h.symm,hy⟩
  have b0:(KK.evend e0 k.now a l).fBegin = e0.fBegin:=rfl
  have b1:(KK.evend e0 k.now a l).fCore = e0.fCore:=rfl
  have b2:(KK.evend e0 k.now a l).fEffect = k.now:=rfl
  have b3:(KK.evend e0 k.now a l).fEnd = k.now:=rfl
  have b4:(KK.evend e0 k.now a l).fEnv = e0.fEnv:=rfl
  refine ⟨fun i e he=>?_,fun i j d e hij hd he=>?_,fun i j d e hd he hp heq=>?_,fun i j d e hij hd he hc=>?_,fun b y hy=>?_,fun i e he h00=>?_⟩
  · rw [hev] at he
    rcases get i e he with ⟨_,h⟩ | ⟨_,rfl⟩
    · exact (E.one i e h).later rfl (Int.le_refl _)
    · exact ⟨o0.c0,o0.c1,o0.v0,o0.v1,o0.b0,o0.b1,.inr ⟨l0.1,rfl,Int.le_refl _⟩⟩
  · rw [hev] at hd he
    have hd':∃ d',k.events[i]? = some d'∧d'.fBegin = d.fBegin:=by
      rcases get i d hd with ⟨_,h⟩ | ⟨rfl,rfl⟩
      · exact ⟨d,h,rfl⟩
      · exact ⟨e0,g1,rfl⟩
    have he':∃ e',k.events[j]? = some e'∧e'.fBegin = e.fBegin:=by
      rcases get j e he with ⟨_,h⟩ | ⟨rfl,rfl⟩
      · exact ⟨e,h,rfl⟩
      · exact ⟨e0,g1,rfl⟩
    obtain ⟨d',h1,h2⟩:=hd'
    obtain ⟨e',h3,h4⟩:=he'
    rw [← h2,← h4]; exact E.up i j d' e' hij h1 h3
  · rw [hev] at hd he
    rcases get i d hd with ⟨_,h⟩ | ⟨rfl,rfl⟩
    · rcases get j e he with ⟨_,h'⟩ | ⟨rfl,rfl⟩
      · exact E.ef i j d e h h' hp heq
      · have:=(hlate i d h).2
        rw [heq,b2] at this; omega
    · rcases get j e he with ⟨_,h'⟩ | ⟨rfl,rfl⟩
      · have:=(hlate j e h').2
        rw [← heq,b2] at this; omega
      · rfl
  · rw [hev] at hd he
    rcases get i d hd with ⟨_,h⟩ | ⟨rfl,rfl⟩
    · rcases get j e he with ⟨_,h'⟩ | ⟨rfl,rfl⟩
      · exact E.co i j d e hij h h' hc
      · exact E.co i j d e0 hij h g1 hc
    · rcases get j e he with ⟨_,h'⟩ | ⟨rfl,rfl⟩
      · have:=E.co i j e0 e hij g1 h' hc
        rcases o0.st with s1 | s1
        · omega
        · rw [g5] at s1; have:=o0.b0; omega
      · omega
  · rw [cls] at hy
    obtain ⟨hbc,hy⟩:=cget b y hy
    obtain ⟨m,h2,e,f1,f2,f3⟩:=E.call b y hy
    refine ⟨m,h2,e,?_,f2,f3⟩
    rw [hev,List.getElem?_set,if_neg]
    · exact f1
    · rintro rfl
      rw [g1] at f1
      cases f1
      omega
  · rw [hev] at he
    rcases get i e he with ⟨hne,h⟩ | ⟨_,rfl⟩
    · obtain ⟨y,hy,e1⟩:=E.open_ i e h h00
      refine ⟨y,?_,e1⟩
      rw [cls,List.getElem?_set,if_neg]
      · exact hy
      · intro e2
        rw [← e2,hx] at hy
        cases hy
        rw [hn] at e1
        exact hne (by omega)
    · have:=o0.b0
      rw [b2] at h00; omega
end Go.Proofs.YtmggcfijlpldpaaGreatDoor
namespace Go.Proofs.YtmggcfijlpldpaaGreatDoor
open Go Mb
structure KZ where
  b:Nat
  pp:Ptr
  ts:Sl
  tp:List Ptr
  pm:Ptr
  pe:Ptr
  cs:Sl
  cp:List Ptr
  es:Sl
abbrev kcl (z:KZ) (k:KK):List Value:=[pv z.pp,.int .i64 k.p.s.fEnvs,sv z.ts,pv z.pm,pv z.pe,sv z.cs,sv z.es,.int .i64 k.now]
abbrev ms (z:KZ) (k:KK):List As:=[blk z.b ci (kcl z k),bo z.pp k.p,vQ sI z.ts z.tp,all fe z.tp k.tlbs,ji z.pm k.boxes,eW z.pe k.epochs,vQ fo z.cs z.cp,all iD z.cp k.calls,vE z.es k.events]
structure KZ.Ok (z:KZ) (k:KK):Prop where
  t:z.tp.length = k.tlbs.length
  c:z.cp.length = k.calls.length
def cM (x:Ptr) (k:KK):As:=fun h=>∃ z:KZ,(x = some (z.b,0)∧KZ.Ok z k∧KK.Ok k)∧aG (ms z k) h
theorem se {x:Ptr} {k:KK} {l:List As} {h:Hp} (s0:aG (cM x k::l) h):∃ z:KZ,x = some (z.b,0)∧KZ.Ok z k∧KK.Ok k∧aG (ms z k++l) h:=by
  obtain ⟨z,⟨hx,h1,ok⟩,st⟩:=op_ s0
  exact ⟨z,hx,h1,ok,st⟩
theorem mZ {z:KZ} {k:KK} {l:List As} {h:Hp} (h1:KZ.Ok z k) (ok:KK.Ok k) (st:aG (ms z k++l) h):aG (cM (some (z.b,0)) k::l) h :=
  cl_ (m:=fun z:KZ=>ms z k) z ⟨rfl,h1,ok⟩ st
theorem kk_len {k:KK} (ok:KK.Ok k):k.tlbs.length = k.calls.length∧k.boxes.length = k.calls.length∧k.epochs.2.length = k.calls.length∧1 ≤ k.calls.length∧k.calls.length ≤ 8:=by
  have h1:=ok.tl; have h2:=ok.bl; have h3:=ok.el; have h4:=ok.cl; have h5:=fK.1 ok.p.sz
  omega
theorem is_nat {k:KK} {c:Int} (h:KK.is k c = true):∃ n:Nat,c = n∧n < k.calls.length:=by
  have:=of_decide_eq_true (show decide (0 ≤ c∧c < (k.calls.length:Int)) = true from h)
  exact ⟨c.toNat,by omega,by omega⟩
theorem call_nat {k:KK} {n:Nat} (h:n < k.calls.length):KK.call k n = k.calls[n]:=by simp [KK.call,h]
theorem buf_nat {k:KK} {n:Nat} (h:n < k.tlbs.length):KK.buf k n = k.tlbs[n]:=by simp [KK.buf,h]
theorem sJ (x:Ptr) (k:KK) (c:Int):Sp Tryz.prog ib [pv x,.int .i64 c] aA [cM x k] (fun r=>pa_ (r = KK.is k c) [cM x k]):=by
  intro h s0
  obtain ⟨z,rfl,zo,ok,st⟩:=se s0
  have hcs:=(cf (j:=6) st rfl).1
  refine sim_kern_Kern_is _ _ ?_
  unfold sh_kern_Kern_is
  refine aX (fun d=>?_) (fun d=>?_)
  · have d':0 ≤ c:=by simpa using d
    refine cy (bk z.cs st (i:=0) rfl rfl rfl ?_)
    exact aW (by rw [hcs,zo.c]; simp [KK.is,d']) s0
  · have d':¬ 0 ≤ c:=by simpa using d
    exact aW (by simp [KK.is]; intro h; exact absurd h d') s0
theorem ol (x:Ptr) (k:KK) (c:Int):Sp Tryz.prog fP [pv x,.int .i64 c] aA [cM x k] (fun r=>pa_ (r = KK.busy k c) [cM x k]):=by
  intro h s0
  refine sim_kern_Kern_Busy _ _ ?_
  unfold ul
  refine bM (sJ x k c) (i:=0) rfl s0 fun r h1 hr s1=>?_
  subst hr
  refine aX (fun d=>?_) (fun d=>?_)
  · obtain ⟨n,rfl,hn⟩:=is_nat d
    obtain ⟨z,rfl,zo,ok,st⟩:=se s1
    have hcs:=(cf (j:=6) st rfl).1
    have hn':n < z.cp.length:=by rw [zo.c]; exact hn
    refine cy (bk z.cs st (i:=0) rfl rfl rfl ?_)
    refine dw st (j:=6) rfl (by omega) (by omega) fun q hq=>?_
    refine eo (j:=6) (i:=n) (k:=0) z.cp[n] gA st rfl hq (by simp) (aE hn') (by simp) ?_
    refine aW ?_ s1
    unfold KK.busy
    rw [d,call_nat hn]
    cases hc:k.calls[n] with
    | none =>
      have:=call_none (j:=7) st rfl (aE hn') (by rw [aE hn,hc])
      rw [this]; rfl
    | some y =>
      obtain ⟨b,hp,_⟩:=wc (j:=7) st rfl (aE hn') (by rw [aE hn,hc])
      rw [hp]; rfl
  · exact aW (by unfold KK.busy; rw [d]; rfl) s1
theorem sp_kern_Begin (x:Ptr) (k:KK) (core env:Int) (c:dn) (hn:k.now < 2 ^ 38):Sp Tryz.prog kQ [pv x,.int .i64 core,.int .i64 env,.agg c.C.toArray] aA [cM x k] (fun r=>pa_ (r = (KK.begin_ k core env c).1) [cM x (KK.begin_ k core env c).2]):=by
  intro h s0
  refine sim_kern_Kern_Begin _ _ _ _ ?_
  unfold sU
  have no:(KK.is k core = false∨KK.busy k core = true∨env < 0∨env ≥ k.p.s.fEnvs)→KK.begin_ k core env c = (false,k):=fun hh=>if_pos hh
  refine bM (sJ x k core) (i:=0) rfl s0 fun r h1 hr s1=>?_
  subst hr
  refine aX (fun d=>?_) (fun d=>?_)
  · have d':KK.is k core = true:=by simpa using d
    refine bM (ol x k core) (i:=0) rfl s1 fun r h2 hr s2=>?_
    subst hr
    refine aX (fun d2=>?_) (fun d2=>?_)
    · have d2':KK.busy k core = false∧¬ env < 0:=by simpa using d2
      obtain ⟨z,rfl,zo,ok,st⟩:=se s2
      refine cy (bk k.p.s.fEnvs st (i:=0) rfl rfl rfl ?_)
      refine aX (fun d3=>?_) (fun d3=>?_)
      · rw [no (.inr (.inr (.inr (by simpa using d3))))]
        exact aW rfl s2
      · have d3':¬ env ≥ k.p.s.fEnvs:=by simpa using d3
        have ok2:=kok_begin ok (by omega) core env c
        have e1:KK.begin_ k core env c = (true,{ k with now:=IntKind.i64.wrap (k.now + 1),events:=k.events++[KK.ev0 core env c (IntKind.i64.wrap (k.now + 1))],calls:=k.calls.set core.toNat (some ⟨k.events.length,env,c,false,0⟩) }):=by
          unfold KK.begin_; rw [if_neg]; simp [d',d2'.1]; omega
        rw [e1] at ok2 ⊢
        obtain ⟨n,rfl,hcn⟩:=is_nat d'
        have hn':n < z.cp.length:=by rw [zo.c]; exact hcn
        have hcs:=(cf (j:=6) st rfl).1
        have hel:=ok.evn
        refine bk k.now st (i:=0) rfl rfl rfl ?_
        refine tN (i:=0) st rfl (Nat.le_of_ble_eq_true rfl) fun h3 s3=>?_
        refine bk (IntKind.i64.wrap (k.now + 1)) s3 (i:=0) rfl rfl rfl ?_
        refine bk z.es s3 (i:=0) rfl rfl rfl ?_
        refine ku (τ:=ce) (i:=8) (enc:=aC.C) (val:=fun x=>.agg x.C.toArray) (x:=KK.ev0 n env c (IntKind.i64.wrap (k.now + 1))) qn mC ev_one (fun _=>rfl) (by omega) rfl rfl s3 rfl (by omega) (by omega) fun v h4 s4=>?_
        refine tN (i:=0) s4 rfl (Nat.le_of_ble_eq_true rfl) fun h5 s5=>?_
        refine bk v s5 (i:=0) rfl rfl rfl ?_
        have hvl:=(cf (j:=8) s5 rfl).1
        refine bk z.cs s5 (i:=0) rfl rfl rfl ?_
        have hw:IntKind.i64.wrap ((v.len:Int) - 1) = k.events.length:=by rw [hvl]; rw [bP] <;> simp <;> omega
        rw [hw]
        refine pf s5 fun b68 h6 s6=>?_
        refine dw s6 (j:=7) rfl (by omega) (by omega) fun q hq=>?_
        refine st_v (j:=7) (i:=n) (k:=0) (some (b68,0):Ptr) gA s6 rfl hq (by simp) (aE hn') (by simp) rfl fun h7 s7=>?_
        have s8:=bb [8] s7 rfl
        have s10:=all_but (aE hn') (aE hcn) s8
        have s12:=call_mk (y:=⟨k.events.length,env,c,false,0⟩) (bb [1,0] s10 rfl)
        have s14:=all_in2 (A:=iD) hcn zo.c s12
        refine aW rfl (mZ (z:={ z with es:=v,cp:=z.cp.set n (some (b68,0)) }) ⟨zo.t,by simpa using zo.c⟩ ok2 (bb [1,1,1,1,1,1,1,0,0] s14 rfl))
    · rw [no]
      · exact aW rfl s2
      · simp at d2
        cases hb:KK.busy k core with
        | true=>exact .inr (.inl rfl)
        | false=>exact .inr (.inr (.inl (d2 hb)))
  · rw [no (.inl (by simpa using d))]
    exact aW rfl s1
theorem cleans_drop (k:KK) (ls:List mh) (n:Nat) (h:n < ls.length) (b:Buf):KK.cleans k (ls.drop n) b = if KK.stale k ls[n] = true then KK.cleans k (ls.drop (n + 1)) (Tlb.flush b ls[n].fEnv ls[n].fPage).2 else KK.cleans k (ls.drop (n + 1)) b:=by
  rw [List.drop_eq_getElem_cons h,KK.cleans]
theorem sp_kern_clean (z:KZ) (k:KK) (c:Nat) (hc:c < k.calls.length) (zo:KZ.Ok z k) (ok:KK.Ok k) :
    Sp Tryz.prog kP [pv (some (z.b,0)),.int .i64 c] R_ (ms z k) (fun _=>aG (ms z (KK.clean k c))):=by
  intro h s0
  obtain ⟨l1,l2,l3,l4,l5⟩:=kk_len ok
  have hct:c < k.tlbs.length:=by omega
  have hcp:c < z.tp.length:=by rw [zo.t]; exact hct
  have hts:=(cf (j:=2) s0 rfl).1
  refine sim_kern_Kern_clean _ _ ?_
  unfold sS
  refine cy (bk z.ts s0 (i:=0) rfl rfl rfl ?_)
  refine dw s0 (j:=2) rfl (by omega) (by omega) fun q hq=>?_
  refine eo (j:=2) (i:=c) (k:=0) z.tp[c] gA s0 rfl hq (by simp) (aE hcp) (by simp) ?_
  have s1:=ja (aE hcp) (aE hct) (bb [3] s0 rfl)
  refine xw (sp_tlb_Lines z.tp[c] k.tlbs[c]) (i:=0) rfl s1 fun r h2 s2=>?_
  have s3:=tK (aE hcp) (aE hct) zo.t (bb [1,1] s2 rfl)
  have s4:aG (vL r (Tlb.lines k.tlbs[c])::ms z k) h2:=bb [1,1,1,1,0] s3 rfl
  have hll:(Tlb.lines k.tlbs[c]).length = 8:=by
    obtain ⟨_,_,h8,_⟩:=ne s1
    unfold Tlb.lines; simpa using h8
  have hrl:=(cf (j:=0) s4 rfl).1
  have hbuf:KK.buf k c = k.tlbs[c]:=buf_nat hct
  have same:k.tlbs.set c k.tlbs[c] = k.tlbs:=iL (aE hct)
  refine Lp.intro (fun (i:Int) h=>∃ (n:Nat) (b:Buf),i = n∧n ≤ 8∧KK.cleans k ((Tlb.lines k.tlbs[c]).drop n) b = KK.cleans k (Tlb.lines k.tlbs[c]) k.tlbs[c]∧aG (vL r (Tlb.lines k.tlbs[c])::ms z { k with tlbs:=k.tlbs.set c b }) h) (fun (i:Int) _=>8 - i.toNat) ⟨0,k.tlbs[c],rfl,Nat.zero_le _,rfl,by rw [same]; exact s4⟩ ?_
  rintro i h ⟨n,b,rfl,hn,he,s5⟩
  unfold nv
  refine aX (fun d=>?_) (fun d=>?_)
  · have hlt:n < (Tlb.lines k.tlbs[c]).length:=by rw [hrl] at d; simpa using d
    have hw:IntKind.i64.wrap ((n:Int) + 1) = ((n + 1:Nat):Int):=by rw [bP (by omega) (by omega)]; rfl
    rw [cleans_drop k _ n hlt] at he
    refine dw s5 (j:=0) rfl (by omega) (by omega) fun q2 hq2=>?_
    refine eo (j:=0) (i:=n) (k:=0) (Tlb.lines k.tlbs[c])[n] line_len s5 rfl hq2 (by simp) (aE hlt) (by simp) ?_
    have hcb:c < (k.tlbs.set c b).length:=by simpa using hct
    have hgb:(k.tlbs.set c b)[c] = b:=by simp
    have j1:∀ (o:Bool × Pte) (h:Hp),((decide ((Tlb.lines k.tlbs[c])[n].fEnv ≥ 0)) && (((!o.1) || (o.2.fFrame != (Tlb.lines k.tlbs[c])[n].fFrame)) || (!(aT (Tlb.lines k.tlbs[c])[n].fRights o.2.fRights)))) = KK.stale k (Tlb.lines k.tlbs[c])[n]→aG (vL r (Tlb.lines k.tlbs[c])::ms z { k with tlbs:=k.tlbs.set c b }) h →
        ii c (z.b,0) (fun s' h'=>(∃ (n:Nat) (b:Buf),s' = n∧n ≤ 8∧KK.cleans k ((Tlb.lines k.tlbs[c]).drop n) b = KK.cleans k (Tlb.lines k.tlbs[c]) k.tlbs[c]∧aG (vL r (Tlb.lines k.tlbs[c])::ms z { k with tlbs:=k.tlbs.set c b }) h')∧8 - s'.toNat < 8 - (n:Int).toNat) n (Tlb.lines k.tlbs[c])[n] o h:=by
      intro o h hs s6
      unfold ii
      rw [hs,hw]
      refine aX (fun d2=>?_) (fun d2=>?_)
      · rw [if_pos d2] at he
        refine bk z.ts s6 (i:=1) rfl rfl rfl ?_
        refine dw s6 (j:=3) rfl (by omega) (by omega) fun q3 hq3=>?_
        refine eo (j:=3) (i:=c) (k:=0) z.tp[c] gA s6 rfl hq3 (by simp) (aE hcp) (by simp) ?_
        have s7:=ja (aE hcp) (aE hcb) (bb [4] s6 rfl)
        rw [hgb] at s7
        refine bM (sp_tlb_Flush z.tp[c] b _ _) (i:=0) rfl s7 fun r h8 hr s8=>?_
        have s9:=uX (aE hcp) hcb (by simpa using zo.t) s8
        rw [List.set_set] at s9
        exact ⟨⟨n + 1,_,rfl,by omega,he,bb [1,1,1,1] s9 rfl⟩,by simp; omega⟩
      · rw [if_neg (by rw [d2]; exact Bool.false_ne_true)] at he
        exact ⟨⟨n + 1,b,rfl,by omega,he,s6⟩,by simp; omega⟩
    refine aX (fun d2=>?_) (fun d2=>?_)
    · have d2':0 ≤ (Tlb.lines k.tlbs[c])[n].fEnv:=by simpa using d2
      refine cO [1,1,5,5] (sp_kern_seen z.b z.pp (kcl z k) k.p z.cs z.cp k.calls (Tlb.lines k.tlbs[c])[n].fEnv (Tlb.lines k.tlbs[c])[n].fPage rfl rfl zo.c l5) s5 rfl fun r h6 s6=>?_
      obtain ⟨rfl,s7⟩:=bt.1 s6
      refine j1 _ _ ?_ (bb [4,0,0,2,2,2,2,0,0] s7 rfl)
      unfold KK.stale KK.seen
      rfl
    · have d2':¬ 0 ≤ (Tlb.lines k.tlbs[c])[n].fEnv:=by simpa using d2
      refine j1 _ _ ?_ s5
      unfold KK.stale
      rw [d2,Bool.false_and,Bool.false_and]
  · have:n = 8:=by rw [hrl] at d; simp at d; omega
    subst this
    rw [← hll,List.drop_length] at he
    have e1:KK.clean k c = { k with tlbs:=k.tlbs.set c b }:=by
      unfold KK.clean
      rw [hbuf,← he,Int.toNat_natCast]; rfl
    rw [e1]
    exact cc (l:=[vL r (Tlb.lines k.tlbs[c])]) s5
theorem sp_kern_ends (z:KZ) (k:KK) (c:Nat) (x:KC) (a:fG) (l:mh) (hc:c < k.calls.length) (hx:k.calls[c]? = some (some x)) (zo:KZ.Ok z k) (ok:KK.Ok k) :
    Sp Tryz.prog lU [pv (some (z.b,0)),.int .i64 c,.agg a.C.toArray,.agg l.C.toArray] R_ (ms z k) (fun _=>aG [cM (some (z.b,0)) (KK.ends k c x a l)]):=by
  intro h s0
  have hcp:c < z.cp.length:=by rw [zo.c]; exact hc
  have hcs:=(cf (j:=6) s0 rfl).1
  have hes:=(cf (j:=8) s0 rfl).1
  obtain ⟨xb,hp,_⟩:=wc (j:=7) s0 rfl (aE hcp) hx
  have hcpx:z.cp[c]? = some (some (xb,0)):=by rw [aE hcp,hp]
  have hcok:=ok.cs x (List.mem_of_getElem? hx)
  obtain ⟨i,hi⟩:=Int.eq_ofNat_of_zero_le hcok.1
  have hil:i < k.events.length:=by omega
  refine sim_kern_Kern_ends _ _ _ _ ?_
  unfold uh
  refine cy (bk z.es s0 (i:=0) rfl rfl rfl ?_)
  refine bk z.cs s0 (i:=0) rfl rfl rfl ?_
  refine dw s0 (j:=6) rfl (by omega) (by omega) fun q hq=>?_
  refine eo (j:=6) (i:=c) (k:=0) z.cp[c] gA s0 rfl hq (by simp) (aE hcp) (by simp) ?_
  rw [hp]
  refine cy (ld_c1 (j:=7) x.fat s0 rfl hcpx hx rfl rfl ?_)
  rw [hi]
  refine dw s0 (j:=8) rfl (by omega) (by omega) fun q2 hq2=>?_
  refine bk k.now s0 (i:=0) rfl rfl rfl ?_
  refine bk k.now s0 (i:=0) rfl rfl rfl ?_
  refine st_v (j:=8) (i:=i) (k:=8) { k.events[i] with fEffect:=k.now } mC s0 rfl hq2 rfl (aE hil) (by simp) rfl fun h1 s1=>?_
  have e1:(k.events.set i { k.events[i] with fEffect:=k.now })[i]? = some { k.events[i] with fEffect:=k.now }:=by simp [hil]
  refine st_v (j:=8) (i:=i) (k:=9) { k.events[i] with fEffect:=k.now,fEnd:=k.now } mC s1 rfl hq2 rfl e1 (by simp) rfl fun h2 s2=>?_
  simp only [List.set_set] at s2
  have e2:(k.events.set i { k.events[i] with fEffect:=k.now,fEnd:=k.now })[i]? = some { k.events[i] with fEffect:=k.now,fEnd:=k.now }:=by simp [hil]
  refine st_v (j:=8) (i:=i) (k:=10) { k.events[i] with fEffect:=k.now,fEnd:=k.now,fAnswer:=a } mC s2 rfl hq2 rfl e2 (by simp [ac.C]) rfl fun h3 s3=>?_
  simp only [List.set_set] at s3
  have e3:(k.events.set i { k.events[i] with fEffect:=k.now,fEnd:=k.now,fAnswer:=a })[i]? = some { k.events[i] with fEffect:=k.now,fEnd:=k.now,fAnswer:=a }:=by simp [hil]
  refine st_v (j:=8) (i:=i) (k:=12) (KK.evend k.events[i] k.now a l) mC s3 rfl hq2 rfl e3 (by simp [am.C]) rfl fun h4 s4=>?_
  simp only [List.set_set] at s4
  refine bk z.cs s4 (i:=0) rfl rfl rfl ?_
  refine dw s4 (j:=6) rfl (by omega) (by omega) fun q5 hq5=>?_
  refine st_v (j:=6) (i:=c) (k:=0) (none:Ptr) gA s4 rfl hq5 (by simp) (aE hcp) (by simp) rfl fun h5 s5=>?_
  have s7:=all_but hcpx hx (bb [7] s5 rfl)
  have s8:=star_cons (A:=iD none none) (fun _=>rfl) s7
  have s9:=all_in2 (A:=iD) hc zo.c s8
  have hge:k.events.getD i (KK.ev0 0 0 ⟨0,0,0,0,0⟩ 0) = k.events[i]:=by simp [hil]
  have e4:KK.ends k c x a l = { k with events:=k.events.set i (KK.evend k.events[i] k.now a l),calls:=k.calls.set c none }:=by
    unfold KK.ends; rw [hi,Int.toNat_natCast,Int.toNat_natCast,hge]
  have ok2:=kok_ends ok c x a l
  rw [e4] at ok2 ⊢
  refine mZ (z:={ z with cp:=z.cp.set c none }) ⟨zo.t,by simpa using zo.c⟩ ok2 (bb [1,1,1,1,1,1,1,0,0] s9 rfl)
end Go.Proofs.YtmggcfijlpldpaaGreatDoor
namespace Go.Proofs.YtmggcfijlpldpaaGreatDoor
open Go Mb
theorem five {x:KC}:∀ (i:Nat) (v:Value),(ah.C x.fc)[i]? = some v→x.C[2 + i]? = some v:=by
  intro j v hv
  have:j < 5:=(List.getElem?_eq_some_iff.1 hv).1
  match j,this with
  | 0,_=>exact hv
  | 1,_=>exact hv
  | 2,_=>exact hv
  | 3,_=>exact hv
  | 4,_=>exact hv
theorem sp_kern_access (z:KZ) (k:KK) (c xb:Nat) (x:KC) (hc:c < k.calls.length) (hx:k.calls[c]? = some (some x)) (hp:z.cp[c]? = some (some (xb,0))) (zo:KZ.Ok z k) (ok:KK.Ok k) :
    Sp Tryz.prog nq [pv (some (z.b,0)),.int .i64 c,pv (some (xb,0))] eJ (ms z k) (fun r=>pa_ (r = (KK.access k c x).1) (ms z (KK.access k c x).2)):=by
  intro h s0
  obtain ⟨l1,l2,l3,l4,l5⟩:=kk_len ok
  have hct:c < k.tlbs.length:=by omega
  have hcp:c < z.tp.length:=by rw [zo.t]; exact hct
  have hbuf:KK.buf k c = k.tlbs[c]:=buf_nat hct
  refine sim_kern_Kern_access _ _ _ ?_
  unfold rF
  refine cy (cy ?_)
  refine ld_c (j:=7) x.fc s0 rfl hp hx five ?_
  refine bk k.p.s.fEnvs s0 (i:=0) rfl rfl rfl ?_
  refine tP (jg x.fc _) s0 fun r h1 hr s1=>?_
  subst hr
  refine aX (fun d=>?_) (fun d=>?_)
  · have e1:KK.access k c x = ((⟨Word.check x.fc k.p.s.fEnvs,0⟩,kC),k):=if_pos (by simpa using d)
    rw [e1]; exact aW rfl s1
  · have d':¬ Word.check x.fc k.p.s.fEnvs ≠ 0:=by simpa using d
    refine ld_c1 (j:=7) x.fc.e1 s1 rfl hp hx rfl rfl ?_
    refine mf og s1 fun r37 h2 s2=>?_
    refine ld_c1 (j:=8) x.fenv s2 rfl hp hx rfl rfl ?_
    refine cO [1,1,5,5] (sp_kern_seen z.b z.pp (kcl z k) k.p z.cs z.cp k.calls x.fenv (IntKind.i64.wrap x.fc.e1) rfl rfl zo.c l5) s2 rfl fun r h3 s3=>?_
    obtain ⟨hr,s4⟩:=bt.1 s3
    have hr':r = KK.seen k x.fenv (IntKind.i64.wrap x.fc.e1):=hr
    subst hr'
    have s5:aG (cW r37 (List.replicate 8 dk)::ms z k) h3:=bb [4,0,0,2,2,2,2,0,0] s4 rfl
    have j1:∀ h,aG (cW r37 (KK.tabFor k x.fenv (IntKind.i64.wrap x.fc.e1))::ms z k) h→gH c (fun r=>pa_ (r = (KK.access k c x).1) (ms z (KK.access k c x).2)) (xb,0) (z.b,0) x.fc.e1 r37 () h:=by
      intro h s6
      have hts:=(cf (j:=3) s6 rfl).1
      unfold gH
      refine ld_c1 (j:=8) x.fc.e0 s6 rfl hp hx rfl rfl ?_
      refine bk z.ts s6 (i:=1) rfl rfl rfl ?_
      refine dw s6 (j:=3) rfl (by omega) (by omega) fun q hq=>?_
      refine eo (j:=3) (i:=c) (k:=0) z.tp[c] gA s6 rfl hq (by simp) (aE hcp) (by simp) ?_
      refine ld_c1 (j:=8) x.fenv s6 rfl hp hx rfl rfl ?_
      have s7:=ja (aE hcp) (aE hct) (bb [4] s6 rfl)
      refine cO [0,1] (sp_user_Walk z.tp[c] r37 k.tlbs[c] (KK.tabFor k x.fenv (IntKind.i64.wrap x.fc.e1)) x.fenv (IntKind.i64.wrap x.fc.e1) (IntKind.i64.wrap x.fc.e0)) s7 rfl fun r h8 s8=>?_
      obtain ⟨hr,s9⟩:=bt.1 s8
      have hr':r = (KK.accWalk k c x).1:=by rw [hr]; unfold KK.accWalk; rw [hbuf]
      have hw:(User.walk k.tlbs[c] (KK.tabFor k x.fenv (IntKind.i64.wrap x.fc.e1)) x.fenv (IntKind.i64.wrap x.fc.e1) (IntKind.i64.wrap x.fc.e0)).2 = (KK.accWalk k c x).2:=by unfold KK.accWalk; rw [hbuf]
      rw [hw] at s9
      subst hr'
      have s10:=uX (aE hcp) hct zo.t (bb [0,1] s9 rfl)
      refine aX (fun d2=>?_) (fun d2=>?_)
      · have e1:KK.access k c x = ((⟨7,0⟩,kC),{ k with tlbs:=k.tlbs.set c (KK.accWalk k c x).2 }):=by
          unfold KK.access; rw [if_neg d',if_pos (by simpa using d2),Int.toNat_natCast]
        rw [e1]
        exact aW rfl (cc (l:=[cW r37 _]) (bb [1,1,1,1,0] s10 rfl))
      · have e1:KK.access k c x = (((PK.touch k.p (KK.accWalk k c x).1.1.fFrame x.fc).1.1,(KK.accWalk k c x).1.1),{ k with tlbs:=k.tlbs.set c (KK.accWalk k c x).2,p:=(PK.touch k.p (KK.accWalk k c x).1.1.fFrame x.fc).2 }):=by
          unfold KK.access; rw [if_neg d',if_neg (by simpa using d2),Int.toNat_natCast]
        rw [e1]
        refine bk z.pp s10 (i:=2) rfl rfl rfl ?_
        refine ld_c (j:=8) x.fc s10 rfl hp hx five ?_
        refine bM (oh z.pp k.p _ x.fc) (i:=3) rfl s10 fun r h11 hr s11=>?_
        subst hr
        have hs:=touch_s k.p (KK.accWalk k c x).1.1.fFrame x.fc
        refine aW rfl ?_
        have s12:=cc (l:=[cW r37 _]) (bb [1,1,1,1,0] s11 rfl)
        have ek:kcl z { k with tlbs:=k.tlbs.set c (KK.accWalk k c x).2,p:=(PK.touch k.p (KK.accWalk k c x).1.1.fFrame x.fc).2 } = kcl z k:=by
          show [pv z.pp,Value.int .i64 (PK.touch k.p (KK.accWalk k c x).1.1.fFrame x.fc).2.s.fEnvs,_,_,_,_,_,_] = _
          rw [hs]
        show aG (blk z.b ci (kcl z _)::_) _
        rw [ek]
        exact s12
    refine aX (fun d2=>?_) (fun d2=>?_)
    · refine bM (ke r37 _ (IntKind.i64.wrap x.fc.e1) (KK.seen k x.fenv (IntKind.i64.wrap x.fc.e1)).1) (i:=0) rfl s5 fun r h6 hr s6=>j1 _ ?_
      have e1:KK.tabFor k x.fenv (IntKind.i64.wrap x.fc.e1) = (Table.insert (List.replicate 8 dk) (IntKind.i64.wrap x.fc.e1) (KK.seen k x.fenv (IntKind.i64.wrap x.fc.e1)).1).2:=if_pos d2
      rw [e1]; exact s6
    · have e1:KK.tabFor k x.fenv (IntKind.i64.wrap x.fc.e1) = List.replicate 8 dk:=if_neg (by rw [d2]; exact Bool.false_ne_true)
      exact j1 _ (by rw [e1]; exact s5)
theorem access_calls (k:KK) (c:Int) (x:KC):(KK.access k c x).2.calls = k.calls:=by
  unfold KK.access
  repeat' split
  all_goals rfl
theorem access_tlen (k:KK) (c:Int) (x:KC):(KK.access k c x).2.tlbs.length = k.tlbs.length:=by
  unfold KK.access
  repeat' split
  all_goals simp
theorem kz_tlbs {z:KZ} {k k':KK} (zo:KZ.Ok z k) (h1:k'.tlbs.length = k.tlbs.length) (h2:k'.calls.length = k.calls.length):KZ.Ok z k':=⟨by rw [h1]; exact zo.t,by rw [h2]; exact zo.c⟩
theorem sp_kern_Step (x:Ptr) (k:KK) (c:Int) (hn:k.now < 2 ^ 37):Sp Tryz.prog lV [pv x,.int .i64 c] aA [cM x k] (fun r=>pa_ (r = (KK.step k c).1) [cM x (KK.step k c).2]):=by
  intro h s0
  refine sim_kern_Kern_Step _ _ ?_
  unfold ui
  refine bM (ol x k c) (i:=0) rfl s0 fun r h1 hr s1=>?_
  subst hr
  refine aX (fun d=>?_) (fun d=>?_)
  · have e1:KK.step k c = (false,k):=if_pos (by simpa using d)
    rw [e1]; exact aW rfl s1
  · have d':KK.busy k c = true:=by simpa using d
    obtain ⟨hi,y,hy⟩:=busy_is d'
    have e1:KK.step k c = (true,KK.work (KK.tick k) c y):=by unfold KK.step; rw [if_neg (by simp [d']),hy]
    rw [e1]
    obtain ⟨z,rfl,zo,ok,st⟩:=se s1
    have okt:=kok_tick ok (by omega)
    obtain ⟨n,rfl,hnc⟩:=is_nat hi
    obtain ⟨l1,l2,l3,l4,l5⟩:=kk_len ok
    have hnp:n < z.cp.length:=by rw [zo.c]; exact hnc
    have hcs:=(cf (j:=6) st rfl).1
    have hxn:k.calls[n]? = some (some y):=by rw [aE hnc,← call_nat hnc,hy]
    have hep:=ok.epn
    have hwn:=wrapN ok.n0 (show k.now < 2 ^ 40 by omega)
    refine cy (bk k.now st (i:=0) rfl rfl rfl ?_)
    refine tN (i:=0) st rfl (Nat.le_of_ble_eq_true rfl) fun h2 s2=>?_
    have s3:aG (ms z (KK.tick k)) h2:=s2
    have zot:KZ.Ok z (KK.tick k):=⟨zo.t,zo.c⟩
    have hxt:(KK.tick k).calls[n]? = some (some y):=hxn
    have hyt:KK.call (KK.tick k) n = some y:=hy
    have hit:KK.is (KK.tick k) n = true:=hi
    have hept:((KK.tick k).epochs.1.length:Int) + 1 ≤ (KK.tick k).now:=by show _ ≤ IntKind.i64.wrap (k.now + 1); rw [hwn]; simp only [KK.tick]; omega
    have hnt:(KK.tick k).now ≤ 2 ^ 37:=by show IntKind.i64.wrap (k.now + 1) ≤ _; rw [hwn]; omega
    have okw:=kok_work okt hept hyt hit
    have hnct:n < (KK.tick k).calls.length:=hnc
    generalize KK.tick k = kt at *
    obtain ⟨xb,hp,_⟩:=wc (j:=7) s3 rfl (aE hnp) hxt
    have hpx:z.cp[n]? = some (some (xb,0)):=by rw [aE hnp,hp]
    refine bk z.cs s3 (i:=0) rfl rfl rfl ?_
    refine dw s3 (j:=6) rfl (by omega) (by omega) fun q hq=>?_
    refine eo (j:=6) (i:=n) (k:=0) z.cp[n] gA s3 rfl hq (by simp) (aE hnp) (by simp) ?_
    rw [hp]
    refine cy (ld_c (j:=7) y.fc s3 rfl hpx hxt five ?_)
    refine aX (fun d2=>?_) (fun d2=>?_)
    · have ew:KK.work kt n y = KK.ends (KK.access kt n y).2 n y (KK.access kt n y).1.1 (KK.access kt n y).1.2:=if_pos d2
      rw [ew]
      have oka:=kok_access okt n y
      have hca:(KK.access kt n y).2.calls = kt.calls:=access_calls _ _ _
      have hta:(KK.access kt n y).2.tlbs.length = kt.tlbs.length:=access_tlen _ _ _
      refine cO [0,0,0,0,0,0,0,0,0] (sp_kern_access z kt n xb y hnct hxt hpx zot okt) s3 rfl fun r h4 s4=>?_
      obtain ⟨hr,s5⟩:=bt.1 s4
      subst hr
      refine cO [0,0,0,0,0,0,0,0,0] (sp_kern_ends z (KK.access kt n y).2 n y (KK.access kt n y).1.1 (KK.access kt n y).1.2 (by rw [hca]; exact hnct) (by rw [hca]; exact hxt) (kz_tlbs zot hta (by rw [hca])) oka) s5 rfl fun r h6 s6=>?_
      exact aW rfl (dC s6)
    · have d2':¬ cK (aB y.fc).1 = true:=by rw [d2]; exact Bool.false_ne_true
      have j2:∀ b:Bool,(y.ftold = false∧KK.takes kt.p y = true) = False→b = (y.ftold && !(Epochs.done kt.epochs y.fepoch))→∀ h,aG (ms z kt) h→iX n (fun r=>pa_ (r = true) [cM (some (z.b,0)) (KK.work kt n y)]) (z.b,0) (xb,0) b h:=by
        intro b hno hb h s4
        have ew:KK.work kt n y = (if y.ftold = true∧Epochs.done kt.epochs y.fepoch = false then kt else if (PK.do_ kt.p y.fenv y.fc).1.2 = true then KK.ends { kt with p:=(PK.do_ kt.p y.fenv y.fc).2 } n y (PK.do_ kt.p y.fenv y.fc).1.1 kC else { kt with p:=(PK.do_ kt.p y.fenv y.fc).2 }):=by
          unfold KK.work
          rw [if_neg d2',if_neg (by rw [hno]; exact not_false)]
        rw [ew] at okw ⊢
        unfold iX
        refine aX (fun d4=>?_) (fun d4=>?_)
        · have d4':y.ftold = true∧Epochs.done kt.epochs y.fepoch = false:=by rw [hb] at d4; simpa using d4
          rw [if_pos d4']
          exact aW rfl (mZ zot okt s4)
        · have d4':¬ (y.ftold = true∧Epochs.done kt.epochs y.fepoch = false):=by rw [hb] at d4; simpa using d4
          rw [if_neg d4'] at okw ⊢
          refine bk z.pp s4 (i:=0) rfl rfl rfl ?_
          refine ld_c1 (j:=7) y.fenv s4 rfl hpx hxt rfl rfl ?_
          refine ld_c (j:=7) y.fc s4 rfl hpx hxt five ?_
          refine bM (jI z.pp kt.p y.fenv y.fc) (i:=1) rfl s4 fun r h5 hr s5=>?_
          subst hr
          have hs:=do_s kt.p y.fenv y.fc
          have s6:aG (ms z { kt with p:=(PK.do_ kt.p y.fenv y.fc).2 }) h5:=by
            show aG (blk z.b ci [pv z.pp,Value.int .i64 (PK.do_ kt.p y.fenv y.fc).2.s.fEnvs,_,_,_,_,_,_]::_) _
            rw [hs]; exact s5
          have okp:=kok_p okt (ok_do okt.p y.fenv y.fc) hs
          refine aX (fun d5=>?_) (fun d5=>?_)
          · rw [if_pos d5]
            refine cO [0,0,0,0,0,0,0,0,0] (sp_kern_ends z { kt with p:=(PK.do_ kt.p y.fenv y.fc).2 } n y (PK.do_ kt.p y.fenv y.fc).1.1 kC hnct hxt ⟨zot.t,zot.c⟩ okp) s6 rfl fun r h7 s7=>?_
            exact aW rfl (dC s7)
          · rw [if_neg (by rw [d5]; exact Bool.false_ne_true)]
            exact aW rfl (mZ (k:={ kt with p:=_ }) ⟨zot.t,zot.c⟩ okp s6)
      refine ld_c1 (j:=7) y.ftold s3 rfl hpx hxt rfl rfl ?_
      refine aX (fun d3=>?_) (fun d3=>?_)
      · have d3':y.ftold = false:=by simpa using d3
        obtain ⟨xb',hp',s4⟩:=call_out hpx hxt (bb [7] s3 rfl)
        cases hp'
        refine cO [2,0,1] (sp_kern_takes z.b xb z.pp (kcl z kt) kt.p y rfl rfl) s4 rfl fun r h5 s5=>?_
        obtain ⟨hr,s6⟩:=bt.1 s5
        subst hr
        unfold iY
        refine aX (fun d4=>?_) (fun d4=>?_)
        · have ew:KK.work kt n y = KK.send (KK.clean (KK.tell kt n y) n) n y:=by unfold KK.work; rw [if_neg d2',if_pos ⟨d3',d4⟩]
          rw [ew] at okw ⊢
          refine tN (i:=1) s6 rfl (Nat.le_of_ble_eq_true rfl) fun h7 s7=>?_
          have s8:=call_in (y:={ y with ftold:=true }) hpx hnct zot.c (bb [1,2] s7 rfl)
          have s9:aG (ms z (KK.tell kt n y)) h7:=bb [1,1,1,1,1,1,1,0,0] s8 rfl
          have okl:KK.Ok (KK.tell kt n y):=kok_call okt n hyt (y:={ y with ftold:=true }) rfl rfl
          have hll:n < (KK.tell kt n y).calls.length:=by simpa [KK.tell] using hnct
          have zol:KZ.Ok z (KK.tell kt n y):=⟨zot.t,by simpa [KK.tell] using zot.c⟩
          refine cO [0,0,0,0,0,0,0,0,0] (sp_kern_clean z (KK.tell kt n y) n hll zol okl) s9 rfl fun r h10 s10=>?_
          have s11:=dC s10
          have hcc:(KK.clean (KK.tell kt n y) n).calls[n]? = some (some { y with ftold:=true }):=by simp [KK.clean,KK.tell,hnct]
          have okc:=kok_clean okl n
          have zoc:KZ.Ok z (KK.clean (KK.tell kt n y) n):=⟨by simpa [KK.clean] using zol.t,zol.c⟩
          have hepc:((KK.clean (KK.tell kt n y) n).epochs.1.length:Int) + 1 ≤ kt.now:=hept
          have hbx:=okc.bx
          have htl:(KK.clean (KK.tell kt n y) n).calls = kt.calls.set n (some { y with ftold:=true }):=rfl
          have hnow:(KK.clean (KK.tell kt n y) n).now = kt.now:=rfl
          generalize KK.clean (KK.tell kt n y) n = kc at *
          have hncc:n < kc.calls.length:=by rw [htl]; simpa using hnct
          refine bk z.pe s11 (i:=0) rfl rfl rfl ?_
          refine bM (sp_epoch_Begin z.pe kc.epochs n (by omega)) (i:=5) rfl s11 fun r h12 hr s12=>?_
          subst hr
          obtain ⟨xb',hp',s13⟩:=call_out hpx hcc (bb [7] s12 rfl)
          cases hp'
          refine tN (i:=0) s13 rfl (Nat.le_of_ble_eq_true rfl) fun h14 s14=>?_
          have s15:=call_in (y:={ y with ftold:=true,fepoch:=(Epochs.begin_ kc.epochs n).1.1 }) hpx hncc zoc.c s14
          refine bk z.pm s15 (i:=1) rfl rfl rfl ?_
          have hxe:(kc.calls.set n (some { y with ftold:=true,fepoch:=(Epochs.begin_ kc.epochs n).1.1 }))[n]? = some (some { y with ftold:=true,fepoch:=(Epochs.begin_ kc.epochs n).1.1 }):=by simp [hncc]
          refine ld_c1 (j:=0) (Epochs.begin_ kc.epochs n).1.1 s15 rfl hpx hxe rfl rfl ?_
          have he:Epochs.is kc.epochs n = true:=by
            unfold Epochs.is
            have:=okc.el
            have:=okc.cl
            exact decide_eq_true (by omega)
          have eb:(Epochs.begin_ kc.epochs n).1.1 = (kc.epochs.1.length:Int) + 1:=by unfold Epochs.begin_; rw [if_pos he]
          refine bM (sp_mail_All z.pm kc.boxes n (Epochs.begin_ kc.epochs n).1.1 ?_) (i:=5) rfl s15 fun r h16 hr s16=>?_
          · intro l hl
            rw [eb]
            exact box_fit (hbx l hl) (by omega)
          · refine aW rfl (mZ (k:=KK.send kc n y) ⟨zoc.t,by simpa [KK.send] using zoc.c⟩ okw (bb [1,1,1,1,1,1,1,0,0] s16 rfl))
        · have hno:(y.ftold = false∧KK.takes kt.p y = true) = False:=by simp [d4]
          have s8:=call_in (y:=y) hpx hnct zot.c (bb [1,2] s6 rfl)
          rw [iL hxt] at s8
          have s9:aG (ms z kt) h5:=bb [1,1,1,1,1,1,1,0,0] s8 rfl
          refine ld_c1 (j:=7) y.ftold s9 rfl hpx hxt rfl rfl ?_
          refine dB d3' ?_
          exact j2 false hno (by rw [d3']; rfl) _ s9
      · have d3':y.ftold = true:=by simpa using d3
        unfold iY
        refine dB rfl ?_
        refine ld_c1 (j:=7) y.ftold s3 rfl hpx hxt rfl rfl ?_
        refine dU d3' ?_
        refine bk z.pe s3 (i:=0) rfl rfl rfl ?_
        refine ld_c1 (j:=7) y.fepoch s3 rfl hpx hxt rfl rfl ?_
        refine bM (sp_epoch_Done z.pe kt.epochs y.fepoch) (i:=5) rfl s3 fun r h4 hr s4=>?_
        subst hr
        exact j2 _ (by simp [d3']) (by rw [d3']; rfl) _ s4
theorem sp_kern_Post (x:Ptr) (k:KK) (c:Int) (hn:k.now < 2 ^ 37):Sp Tryz.prog lW [pv x,.int .i64 c] aA [cM x k] (fun r=>pa_ (r = (KK.post k c).1) [cM x (KK.post k c).2]):=by
  intro h s0
  refine sim_kern_Kern_Post _ _ ?_
  unfold uj
  refine bM (sJ x k c) (i:=0) rfl s0 fun r h1 hr s1=>?_
  subst hr
  refine aX (fun d=>?_) (fun d=>?_)
  · have e1:KK.post k c = (false,k):=if_pos (by simpa using d)
    rw [e1]; exact aW rfl s1
  · have d':KK.is k c = true:=by simpa using d
    obtain ⟨z,rfl,zo,ok,st⟩:=se s1
    have okp:=kok_post ok (by omega) c
    obtain ⟨n,rfl,hnc⟩:=is_nat d'
    refine cy (bk z.pm st (i:=0) rfl rfl rfl ?_)
    refine bM (sp_mail_Take z.pm k.boxes n) (i:=4) rfl st fun r h2 hr s2=>?_
    subst hr
    refine aX (fun d2=>?_) (fun d2=>?_)
    · have d2':(Mail.take k.boxes n).1.2 = false:=by simpa using d2
      have e1:KK.post k n = (false,k):=by unfold KK.post; rw [if_neg (by simp [d']),if_pos d2']
      have e2:(Mail.take k.boxes n).2 = k.boxes:=by
        unfold Mail.take at d2' ⊢; split
        · rfl
        · rename_i hh; rw [if_neg hh] at d2'; cases d2'
      rw [e1]
      rw [e2] at s2
      exact aW rfl (mZ zo ok s2)
    · have e1:KK.post k n = (true,{ KK.clean { KK.tick k with boxes:=(Mail.take k.boxes n).2 } n with epochs:=(Epochs.ack k.epochs n (Mail.take k.boxes n).1.1).2 }):=by
        unfold KK.post; rw [if_neg (by simp [d']),if_neg (by simpa using d2)]
      rw [e1] at okp ⊢
      refine bk k.now s2 (i:=0) rfl rfl rfl ?_
      refine tN (i:=0) s2 rfl (Nat.le_of_ble_eq_true rfl) fun h3 s3=>?_
      have s4:aG (ms z { KK.tick k with boxes:=(Mail.take k.boxes n).2 }) h3:=s3
      have okt:=kok_tick ok (by omega)
      have hbl:(Mail.take k.boxes n).2.length = k.boxes.length:=by unfold Mail.take; split <;> simp
      have hb:∀ l ∈ (Mail.take k.boxes n).2,mt k.epochs.1.length l:=by
        unfold Mail.take; split
        · exact ok.bx
        · exact boxes_set ok.bx _ (box_drop (box_of ok.bx n))
      have ok2:KK.Ok { KK.tick k with boxes:=(Mail.take k.boxes n).2 }:=⟨okt.p,okt.tl,by simp only [hbl]; exact ok.bl,okt.el,okt.cl,okt.cs,okt.n0,okt.evn,okt.epn,hb⟩
      refine cO [0,0,0,0,0,0,0,0,0] (sp_kern_clean z { KK.tick k with boxes:=(Mail.take k.boxes n).2 } n hnc ⟨zo.t,zo.c⟩ ok2) s4 rfl fun r h5 s5=>?_
      have s6:=dC s5
      refine bk z.pe s6 (i:=0) rfl rfl rfl ?_
      refine bM (sp_epoch_Ack z.pe k.epochs n _) (i:=5) rfl s6 fun r h7 hr s7=>?_
      refine aW rfl (mZ (z:=z) ⟨?_,zo.c⟩ okp s7)
      simpa [KK.clean,KK.tick] using zo.t
theorem sp_kern_Evict (x:Ptr) (k:KK) (c s w:Int) (hn:k.now < 2 ^ 37):Sp Tryz.prog oK [pv x,.int .i64 c,.int .i64 s,.int .i64 w] aA [cM x k] (fun r=>pa_ (r = (KK.evict k c s w).1) [cM x (KK.evict k c s w).2]):=by
  intro h s0
  refine sim_kern_Kern_Evict _ _ _ _ ?_
  unfold sT
  refine bM (sJ x k c) (i:=0) rfl s0 fun r h1 hr s1=>?_
  subst hr
  refine aX (fun d=>?_) (fun d=>?_)
  · have d':KK.is k c = true:=by simpa using d
    obtain ⟨z,rfl,zo,ok,st⟩:=se s1
    have okp:=kok_evict ok (by omega) c s w
    obtain ⟨n,rfl,hnc⟩:=is_nat d'
    obtain ⟨l1,l2,l3,l4,l5⟩:=kk_len ok
    have hct:n < k.tlbs.length:=by omega
    have hcp:n < z.tp.length:=by rw [zo.t]; exact hct
    have hts:=(cf (j:=2) st rfl).1
    have hbuf:KK.buf k n = k.tlbs[n]:=buf_nat hct
    refine cy (bk z.ts st (i:=0) rfl rfl rfl ?_)
    refine dw st (j:=2) rfl (by omega) (by omega) fun q hq=>?_
    refine eo (j:=2) (i:=n) (k:=0) z.tp[n] gA st rfl hq (by simp) (aE hcp) (by simp) ?_
    have s2:=ja (aE hcp) (aE hct) (bb [3] st rfl)
    refine bM (sp_tlb_Evict z.tp[n] k.tlbs[n] s w) (i:=0) rfl s2 fun r h3 hr s3=>?_
    subst hr
    refine aX (fun d2=>?_) (fun d2=>?_)
    · have d2':(Tlb.evict k.tlbs[n] s w).1 = false:=by simpa using d2
      have e1:KK.evict k n s w = (false,k):=by unfold KK.evict; rw [if_neg (by simp [d']),hbuf,if_pos d2']
      have e2:(Tlb.evict k.tlbs[n] s w).2 = k.tlbs[n]:=by
        unfold Tlb.evict at d2' ⊢
        split
        · rfl
        · split
          · rfl
          · rename_i h4 h5; rw [if_neg h4,if_neg h5] at d2'; cases d2'
      rw [e1]
      rw [e2] at s3
      exact aW rfl (mZ zo ok (bb [1,1,1] (tK (aE hcp) (aE hct) zo.t s3) rfl))
    · have e1:KK.evict k n s w = (true,{ KK.tick k with tlbs:=k.tlbs.set n (Tlb.evict k.tlbs[n] s w).2 }):=by unfold KK.evict; rw [if_neg (by simp [d']),hbuf,if_neg (by simpa using d2)]; rfl
      rw [e1] at okp ⊢
      have s4:=uX (aE hcp) hct zo.t s3
      refine bk k.now s4 (i:=1) rfl rfl rfl ?_
      refine tN (i:=1) s4 rfl (Nat.le_of_ble_eq_true rfl) fun h5 s5=>?_
      exact aW rfl (mZ (z:=z) (k:={ KK.tick k with tlbs:=_ }) ⟨by simpa using zo.t,zo.c⟩ okp (bb [1,1,1] s5 rfl))
  · have e1:KK.evict k c s w = (false,k):=if_pos (by simpa using d)
    rw [e1]; exact aW rfl s1
theorem sp_kern_Mail (x:Ptr) (k:KK) (c:Int):Sp Tryz.prog pZ [pv x,.int .i64 c] eC [cM x k] (fun r=>pa_ (r = KK.mail k c) [cM x k]):=by
  intro h s0
  refine sim_kern_Kern_Mail _ _ ?_
  unfold uk
  refine bM (sJ x k c) (i:=0) rfl s0 fun r h1 hr s1=>?_
  subst hr
  refine aX (fun d=>?_) (fun d=>?_)
  · exact aW (by unfold KK.mail; rw [if_neg (by simpa using d)]) s1
  · obtain ⟨z,rfl,zo,ok,st⟩:=se s1
    refine cy (bk z.pm st (i:=0) rfl rfl rfl ?_)
    refine bM (sp_mail_Waits z.pm k.boxes c) (i:=4) rfl st fun r h2 hr s2=>?_
    exact aW (by unfold KK.mail; rw [if_pos (by simpa using d),hr]) (mZ zo ok s2)
theorem sp_slices_CloneE (s:Sl) (xs:List ce) (hb:xs.length < 2 ^ 38):Sp Tryz.prog eQ [sv s] eA [vE s xs] (fun r=>aG [vE r xs,vE s xs]):=by
  intro h s0
  refine mu _ ?_
  unfold gR
  refine aX (fun k=>?_) (fun k=>?_)
  · have hn:xs = []:=by
      obtain ⟨_,⟨e1,e2,e3⟩,_⟩:=dS (i:=0) rfl s0
      rcases e3 with e3 | ⟨b,pre,rest,U,fr,h4,_⟩
      · exact List.eq_nil_of_length_eq_zero (by omega)
      · rw [h4] at k; cases k
    subst hn
    exact fH s0
  · refine fy (τ:=ce) [] (val:=fun x=>.agg x.C.toArray) (enc:=aC.C) qn mC (fun _=>rfl) s0 rfl rfl (by simp) fun y h' s1=>?_
    refine tJ (τ:=ce) (i:=0) (j:=1) (enc:=aC.C) (xs:=[]) (ys:=xs) qn qn.sl mC ev_one s1 rfl rfl (by omega) (by simp; omega) (by simp; omega) fun v h2 s2=>?_
    exact s2
theorem sK (x:Ptr) (k:KK) (hb:k.now < 2 ^ 38):Sp Tryz.prog fO [pv x] eA [cM x k] (fun r=>aG [vE r k.events,cM x k]):=by
  intro h s0
  obtain ⟨z,rfl,zo,ok,st⟩:=se s0
  have:=ok.evn
  refine sim_kern_Kern_Events _ ?_
  unfold rG
  refine dB rfl (cy (bk z.es st (i:=0) rfl rfl rfl ?_))
  refine xw (sp_slices_CloneE z.es k.events (by omega)) (i:=8) rfl st fun r h1 s1=>?_
  exact star_tail s1 fun h2 s2=>mZ zo ok s2
end Go.Proofs.YtmggcfijlpldpaaGreatDoor
namespace Go.Proofs.YtmggcfijlpldpaaGreatDoor
open Go Mb
set_option linter.unusedVariables false
def eV (a0:Ptr) (Rec7:(Bool × Int)→Hp→Prop) (s6:Bool × Int) (s11:Unit):Hp→Prop:=cl Tryz.prog fP [(pv a0),(.int .i64 s6.2)] aA fun r37=>cl Tryz.prog fP [(pv a0),(.int .i64 s6.2)] aA fun r43=>br r43 ( cl Tryz.prog lV [(pv a0),(.int .i64 s6.2)] aA fun r46=>Rec7 ((r37 || s6.1),(IntKind.i64.wrap (s6.2 + 1)))) ( Rec7 ((r37 || s6.1),(IntKind.i64.wrap (s6.2 + 1))))
def gm (a0:Ptr) (Rec7:(Bool × Int)→Hp→Prop) (s6:Bool × Int) (Rec20:Int→Hp→Prop) (s19:Int):Hp→Prop:=br (decide (s19 < 5000)) ( cl Tryz.prog pZ [(pv a0),(.int .i64 s6.2)] eC fun r27=>br (decide (r27 > 0)) ( cl Tryz.prog lW [(pv a0),(.int .i64 s6.2)] aA fun r34=>Rec20 (IntKind.i64.wrap (s19 + 1))) ( eV a0 Rec7 s6 ())) ( eV a0 Rec7 s6 ())
def gn (a0:Ptr) (a1:Int) (K:Bool→Hp→Prop) (Rec2:Int→Hp→Prop) (s1:Int) (Rec7:(Bool × Int)→Hp→Prop) (s6:Bool × Int):Hp→Prop:=br (decide (s6.2 < a1)) ( Lp (gm a0 Rec7 s6) 0) ( br (!s6.1) ( K true) ( Rec2 (IntKind.i64.wrap (s1 + 1))))
def gl (a0:Ptr) (a1:Int) (K:Bool→Hp→Prop) (Rec34:Int→Hp→Prop) (s33:Int):Hp→Prop:=br (decide (s33 < a1)) ( cl Tryz.prog fP [(pv a0),(.int .i64 s33)] aA fun r56=>br r56 ( K false) ( Rec34 (IntKind.i64.wrap (s33 + 1)))) ( K true)
def jx (a0:Ptr) (a1:Int) (a2:Int) (K:Bool→Hp→Prop) (Rec2:Int→Hp→Prop) (s1:Int):Hp→Prop:=br (decide (s1 < a2)) ( Lp (gn a0 a1 K Rec2 s1) (false,0)) ( Lp (gl a0 a1 K) 0)
def nI (a0:Ptr) (a1:Int) (a2:Int) (K:Bool→Hp→Prop):Hp→Prop:=Lp (jx a0 a1 a2 K) 0
theorem uM (a0:Ptr) (a1:Int) (a2:Int) {K:Bool→Hp→Prop} {h:Hp} (H:nI a0 a1 a2 K h):Ct Tryz.prog ft #[(pv a0),(.int .i64 a1),(.int .i64 a2)] h fun v h'=>∃ r,v = aA r∧K r h':=au [(pv a0),(.int .i64 a1),(.int .i64 a2)] Tryz.func24 c c c fun _=>M<|O c<|ak<|M<|O c<|ay<|bE (step:=jx a0 a1 a2 K) (fun s1=>[(0,(pv a0)),(1,(.int .i64 a1)),(2,(.int .i64 a2)),(7,(.int .i64 s1))]) (fun s1=>[]) H (.cons c<|.cons c<|.cons c<|.cons c<|.nil _) .slnil fun Rec2 s1 _ H3=>ak<|M<|J c<|J c<|p (cu c c)<|ad<|av c H3 (fun k4 H5=>an<|ak<|ay<|M<|O c<|ak<|M<|O c<|ay<|bE (step:=gn a0 a1 K Rec2 s1) (fun s6=>[(0,(pv a0)),(1,(.int .i64 a1)),(2,(.int .i64 a2)),(7,(.int .i64 s1)),(8,(.bool s6.1)),(9,(.int .i64 s6.2))]) (fun s6=>[]) H5 (.cons c<|.cons c<|.cons c<|.cons c<|.cons c<|.cons c<|.nil _) .slnil fun Rec7 s6 _ H8=>ak<|M<|J c<|J c<|p (cu c c)<|ad<|av c H8 (fun k9 H10=>an<|ak<|ay<|eu (eV a0 Rec7 s6) (fun s11=>[(0,(pv a0)),(1,(.int .i64 a1)),(2,(.int .i64 a2)),(7,(.int .i64 s1)),(8,(.bool s6.1)),(9,(.int .i64 s6.2))]) (fun s11=>[]) (M<|O c<|ay<|bE (step:=gm a0 Rec7 s6) (fun s19=>[(0,(pv a0)),(1,(.int .i64 a1)),(2,(.int .i64 a2)),(7,(.int .i64 s1)),(8,(.bool s6.1)),(9,(.int .i64 s6.2)),(10,(.int .i64 s19))]) (fun s19=>[]) H10 (.cons c<|.cons c<|.cons c<|.cons c<|.cons c<|.cons c<|.cons c<|.nil _) .slnil fun Rec20 s19 _ H21=>ak<|M<|J c<|p (cu c c)<|J c<|V c c (ax _) (fun g22=>wv<|ag c)<|V c c (ax _) (fun g23=>wv<|ag c)<|bO H21 (fun k25 H26=>F (D k25)<|fX H26 en_63 (aP (aD c k25)<|aP (aD c k25) bS) c fun r27 _ H27=>F (D k25)<|I (qv c c)<|p (aQ c k25 c)<|ad<|av c H27 (fun k28 H29=>an<|ak<|ay<|aq<|J c<|J c<|aa<|Z H29 en_64 fun r34 _ H30=>ad<|aq<|J c<|p (bq c c)<|O c<|cL (IntKind.i64.wrap (s19 + 1)) H30 (.cons c<|.cons c<|.cons c<|.cons c<|.cons c<|.cons c<|.cons c<|.nil _) .slnil) fun k28 H29=>bj<|cG () H29 (.cons c<|.cons c<|.cons c<|.cons c<|.cons c<|.cons c<|.nil _) .slnil) fun k25 H26=>W (aS k25)<|W (aS k25)<|p (ap c k25 c)<|ad<|ev_no c c<|bj<|cG () H26 (.cons c<|.cons c<|.cons c<|.cons c<|.cons c<|.cons c<|.nil _) .slnil) fun s11 _ H12=>M<|J c<|J c<|aa<|Z H12 en_26 fun r37 _ H13=>J c<|V c c (aH _) (fun g14=>wv<|ag c)<|p (dh c c)<|O c<|M<|J c<|J c<|aa<|Z H13 en_26 fun r43 _ H15=>ad<|av c H15 (fun k16 H17=>aq<|J c<|J c<|aa<|Z H17 en_23 fun r46 _ H18=>ad<|aq<|J c<|p (bq c c)<|O c<|cL ((r37 || s6.1),(IntKind.i64.wrap (s6.2 + 1))) H18 (.cons c<|.cons c<|.cons c<|.cons c<|.cons c<|.cons c<|.nil _) .slnil) fun k16 H17=>an<|aq<|J c<|p (bq c c)<|O c<|cL ((r37 || s6.1),(IntKind.i64.wrap (s6.2 + 1))) H17 (.cons c<|.cons c<|.cons c<|.cons c<|.cons c<|.cons c<|.nil _) .slnil) fun k9 H10=>bj<|M<|J c<|p (cq c)<|ad<|av c H10 (fun k31 H32=>M<|O c<|ai<|Y ⟨true,c,H32⟩) fun k31 H32=>an<|aq<|J c<|p (bq c c)<|O c<|cL (IntKind.i64.wrap (s1 + 1)) H32 (.cons c<|.cons c<|.cons c<|.cons c<|.nil _) .slnil) fun k4 H5=>bj<|ak<|M<|O c<|ay<|bE (step:=gl a0 a1 K) (fun s33=>[(0,(pv a0)),(1,(.int .i64 a1)),(11,(.int .i64 s33))]) (fun s33=>[]) H5 (.cons c<|.cons c<|.cons c<|.nil _) .slnil fun Rec34 s33 _ H35=>ak<|M<|J c<|J c<|p (cu c c)<|ad<|av c H35 (fun k36 H37=>an<|ak<|ay<|M<|J c<|J c<|aa<|Z H37 en_26 fun r56 _ H38=>ad<|av c H38 (fun k39 H40=>M<|O c<|ai<|Y ⟨false,c,H40⟩) fun k39 H40=>an<|aq<|J c<|p (bq c c)<|O c<|cL (IntKind.i64.wrap (s33 + 1)) H40 (.cons c<|.cons c<|.cons c<|.nil _) .slnil) fun k36 H37=>bj<|M<|O c<|ai<|Y ⟨true,c,H37⟩
def fZ (a1:Int) (K:(ac × Bool)→Hp→Prop) (r24:Sl) (Rec9:(Int × ac)→Hp→Prop) (s8:Int × ac):Hp→Prop:=br (decide (s8.1 ≥ 0)) ( ix r24 s8.1 fun q34=>ld (q34.1,q34.2 + Int.toNat s8.1 * 16 + 0) (cI .i64) fun x36=>br (x36 == a1) ( both ( ld (q34.1,q34.2 + Int.toNat s8.1 * 16 + 10) ac.C fun x43=>ld (q34.1,q34.2 + Int.toNat s8.1 * 16 + 9) (cI .i64) fun x48=>K (x43,(decide (x48 > 0)))) ( ld (q34.1,q34.2 + Int.toNat s8.1 * 16 + 9) (cI .i64) fun x48=>ld (q34.1,q34.2 + Int.toNat s8.1 * 16 + 10) ac.C fun x43=>K (x43,(decide (x48 > 0))))) ( Rec9 ((IntKind.i64.wrap (s8.1 - 1)),s8.2))) ( K ((⟨0,0⟩:ac),false))
def qI (a0:Ptr) (a1:Int) (a2:Int) (a3:ah) (K:(ac × Bool)→Hp→Prop):Hp→Prop:=cl Tryz.prog kQ [(pv a0),(.int .i64 a1),(.int .i64 a2),(.agg (ah.C a3).toArray)] aA fun r16=>br (!r16) ( K ((⟨0,0⟩:ac),false)) ( cl Tryz.prog ft [(pv a0),(.int .i64 8),(.int .i64 1000)] aA fun r20=>br (!r20) ( K ((⟨0,0⟩:ac),false)) ( cl Tryz.prog fO [(pv a0)] eA fun r24=>Lp (fZ a1 K r24) ((IntKind.i64.wrap ((r24.len:Int) - 1)),(⟨0,0⟩:ac))))
theorem sim_messuagelaw16_Run (a0:Ptr) (a1:Int) (a2:Int) (a3:ah) {K:(ac × Bool)→Hp→Prop} {h:Hp} (H:qI a0 a1 a2 a3 K h):Ct Tryz.prog eH #[(pv a0),(.int .i64 a1),(.int .i64 a2),(.agg (ah.C a3).toArray)] h fun v h'=>∃ r,v = bh r∧K r h':=au [(pv a0),(.int .i64 a1),(.int .i64 a2),(.agg (ah.C a3).toArray)] Tryz.func16 c c c fun _=>M<|aa<|cC (l:=ah.C a3) c c c fun b7=>aa<|aM (l:=ac.C (⟨0,0⟩:ac)) dc c c fun b8=>O c<|ak<|M<|J c<|J c<|J c<|be (bC (k:=1) ff c c c c) c<|aa<|Z H en_22 fun r16 _ H1=>p (cq c)<|ad<|av c H1 (fun k2 H3=>M<|p (bc (vs:=[]) c tH)<|aa<|aO (k:=0) (vs:=ac.C (⟨0,0⟩:ac)) bN c c c c c c c<|O c<|ai<|bw (bR c (bB (k:=0) c cD c c)<|bZ c) ⟨((⟨0,0⟩:ac),false),c,H3⟩) fun k2 H3=>an<|ak<|M<|J c<|aa<|Z H3 en_24 fun r20 _ H4=>p (cq c)<|ad<|av c H4 (fun k5 H6=>M<|p (bc (vs:=[]) c tH)<|aa<|aO (k:=0) (vs:=ac.C (⟨0,0⟩:ac)) bN c c c c c c c<|O c<|ai<|bw (bR c (bB (k:=0) c cD c c)<|bZ c) ⟨((⟨0,0⟩:ac),false),c,H6⟩) fun k5 H6=>an<|M<|J c<|aa<|Z H6 en_20 fun r24 _ H7=>O c<|ak<|M<|J c<|p (dy c Tryz.underlying43 c)<|p (v_sub c c)<|O c<|ay<|bE (step:=fZ a1 K r24) (fun s8=>[(1,(.int .i64 a1)),(8,(.pointer (some ⟨b8,0,none⟩))),(10,(sv r24)),(11,(.int .i64 s8.1))]) (fun s8=>[bx b8 30 (ac.C s8.2)]) H7 (.cons c<|.cons c<|.cons c<|.cons c<|.nil _) (.cons_cons _<|.cons _ .slnil) fun Rec9 s8 _ H10=>ak<|M<|J c<|p (jk c c)<|ad<|av c H10 (fun k11 H12=>an<|ak<|ay<|M<|J c<|J c<|cj H12 fun q34 e13 h14 H15=>p (bn ra (aL c<|aZ e13) c h14)<|p (ae tw c)<|aa<|aU H15 aY c (fun _=>c) c fun x36 H16=>J c<|p (bL c c)<|ad<|av c H16 (fun k17 H18=>ak<|bm (n:=13) [] cm c (.cons _ .slnil)<|U 0 c (ag c)<|U 1 c (ag c)<|U 2 c (bn ra (aL c<|aZ e13) c h14)<|U 3 c (ae ki c)<|U 5 c (ag c)<|U 6 c (ag c)<|U 7 c (bn ra (aL c<|aZ e13) c h14)<|U 8 c (ae oS c)<|jB H18 fun H19_1 H19_2=>jC (i:=4) (j:=9) (by kernel_rfl) (cE c c<|gu H19_1 cD c (fun _=>c) c fun x43 H20=>⟨.cons _ .slnil,jC (i:=9) (j:=11) (by kernel_rfl) (cE c c<|aU H20 aY c (fun _=>c) c fun x48 H22=>⟨.cons _ .slnil,U 10 c (qv c c)<|G 11 c<|aO (k:=0) (vs:=ac.C x43) bN c c c c c c c ⟨.cons _ .slnil,U 12 c (ar c)<|aV (by kernel_rfl)<|ai<|bw (bR c (bB (k:=0) c cD c c)<|bZ c) ⟨(x43,(decide (x48 > 0))),c,H22⟩⟩⟩)<|cE c c<|aO (k:=0) (vs:=ac.C x43) bN c c c c c c c ⟨.cons _ .slnil,bF (i:=9) (fun _ _ _ _ hh=>hh) H20 c (by kernel_rfl) aY c (fun _=>c) c fun x48 H22=>U 10 c (qv c c)<|U 12 c (ar c)<|aV (by kernel_rfl)<|ai<|bw (bR c (bB (k:=0) c cD c c)<|bZ c) ⟨(x43,(decide (x48 > 0))),c,H22⟩⟩⟩)<|cE c c<|aU H19_2 aY c (fun _=>c) c fun x48 H20=>⟨.cons _ .slnil,U 10 c (qv c c)<|xk (i:=4) (fun _ _ _ _ hh=>hh) H20 c (by kernel_rfl) cD c (fun _=>c) c fun x43 H21=>G 11 c<|aO (k:=0) (vs:=ac.C x43) bN c c c c c c c ⟨.cons _ .slnil,U 12 c (ar c)<|aV (by kernel_rfl)<|ai<|bw (bR c (bB (k:=0) c cD c c)<|bZ c) ⟨(x43,(decide (x48 > 0))),c,H21⟩⟩⟩) fun k17 H18=>an<|aq<|J c<|p (v_sub c c)<|O c<|cL ((IntKind.i64.wrap (s8.1 - 1)),s8.2) H18 (.cons c<|.cons c<|.cons c<|.cons c<|.nil _)<|.cons_cons _ .slnil) fun k11 H12=>bj<|M<|p (bc (vs:=[]) c tH)<|aa<|aO (k:=0) (vs:=ac.C (⟨0,0⟩:ac)) bN c c c c c c c<|O c<|ai<|bw (bR c (bB (k:=0) c cD c c)<|bZ c) ⟨((⟨0,0⟩:ac),false),c,H12⟩
def ox (K:Bool→Hp→Prop):Hp→Prop:=cl Tryz.prog wW [(.agg (aw.C (⟨2,2,3⟩:aw)).toArray)] su fun r21=>br r21.isNone ( K false) ( cl Tryz.prog eH [(pv r21),(.int .i64 0),(.int .i64 0),(.agg (ah.C (⟨1,1,0,0,0⟩:ah)).toArray)] bh fun r27=>cl Tryz.prog eH [(pv r21),(.int .i64 0),(.int .i64 0),(.agg (ah.C (⟨6,4,1,3,0⟩:ah)).toArray)] bh fun r33=>cl Tryz.prog eH [(pv r21),(.int .i64 1),(.int .i64 0),(.agg (ah.C (⟨21,4,2,9,0⟩:ah)).toArray)] bh fun r39=>cl Tryz.prog eH [(pv r21),(.int .i64 0),(.int .i64 0),(.agg (ah.C (⟨20,4,2,0,0⟩:ah)).toArray)] bh fun r45=>cl Tryz.prog eH [(pv r21),(.int .i64 0),(.int .i64 0),(.agg (ah.C (⟨7,4,0,0,0⟩:ah)).toArray)] bh fun r51=>cl Tryz.prog fO [(pv r21)] eA fun r55=>cl Tryz.prog oL [(sv r55),(.agg (aw.C (⟨2,2,3⟩:aw)).toArray)] bK fun r59=>cl Tryz.prog oM [(sv r55),(.agg (aw.C (⟨2,2,3⟩:aw)).toArray)] bK fun r65=>cl Tryz.prog uQ [(.int .i64 2),(.int .i64 3)] gV fun r68=>cl Tryz.prog kB [] aA fun r69=>br (((((((((((((((r69 && r27.2) && r33.2) && r39.2) && r45.2) && r51.2) && (r27.1.fErr == 0)) && (r33.1.fErr == 0)) && (r39.1.fErr == 0)) && (r45.1.fVal == 9)) && (r51.1.fErr == 0)) && ((r55.len:Int) == 5)) && (r59.1 == (-1))) && r59.2) && (r65.1 == (-1))) && r65.2) ( cl Tryz.prog wX [(sv r55),(.agg (aw.C (⟨2,2,3⟩:aw)).toArray)] aA fun r132=>br r132 ( cl Tryz.prog oN [(sv r55)] cA fun r136=>br (((r136.len:Int) == 5) && ((r68.len:Int) == 12)) ( cl Tryz.prog n_fair_Fair [(sv r68),(.int .i64 2),(.int .i64 5)] aA fun r147=>br r147 ( cl Tryz.prog n_twin_View [(sv r55),(.int .i64 0)] mS fun r151=>br ((r151.len:Int) == 5) ( cl Tryz.prog uP [(sv r55),(.agg (aw.C (⟨2,2,3⟩:aw)).toArray)] aA fun r158=>K r158) ( K false)) ( K false)) ( K false)) ( K false)) ( K false))
theorem vi {K:Bool→Hp→Prop} {h:Hp} (H:ox K h):Ct Tryz.prog kz #[] h fun v h'=>∃ r,v = aA r∧K r h':=au [] Tryz.func14 c c c fun _=>M<|O c<|M<|p (bc c<|tI 2 2 3)<|aa<|aM (l:=aw.C (⟨0,0,0⟩:aw)) zero_27 c c fun b1=>aa<|aO (k:=0) (vs:=aw.C (⟨2,2,3⟩:aw)) inf_27 c c c c c c c<|ad<|M<|be (bC (k:=0) oW c c c c) c<|aa<|Z H en_21 fun r21 _ H1=>O c<|ak<|M<|J c<|p (cn Tryz.underlying24 c)<|ad<|av c H1 (fun k2 H3=>M<|O c<|ai<|Y ⟨false,c,H3⟩) fun k2 H3=>an<|M<|J c<|p (bc c<|mg 1 1)<|aa<|Z H3 en_16 fun r27 _ H4=>J c<|p (aj c c)<|p (aj c c)<|aa<|aM (l:=ac.C (⟨0,0⟩:ac)) dc c c fun b3=>aa<|aO (k:=0) (vs:=ac.C r27.1) bN c c c c c c c<|O c<|M<|J c<|p (bc c<|jE 6 4 1 3)<|aa<|Z H4 en_16 fun r33 _ H5=>J c<|p (aj c c)<|p (aj c c)<|aa<|aM (l:=ac.C (⟨0,0⟩:ac)) dc c c fun b5=>aa<|aO (k:=0) (vs:=ac.C r33.1) bN c c c c c c c<|O c<|M<|J c<|p (bc c<|jE 21 4 2 9)<|aa<|Z H5 en_16 fun r39 _ H6=>J c<|p (aj c c)<|p (aj c c)<|aa<|aM (l:=ac.C (⟨0,0⟩:ac)) dc c c fun b7=>aa<|aO (k:=0) (vs:=ac.C r39.1) bN c c c c c c c<|O c<|M<|J c<|p (bc c<|tG 20 4 2)<|aa<|Z H6 en_16 fun r45 _ H7=>J c<|p (aj c c)<|p (aj c c)<|aa<|aM (l:=ac.C (⟨0,0⟩:ac)) dc c c fun b9=>aa<|aO (k:=0) (vs:=ac.C r45.1) bN c c c c c c c<|O c<|M<|J c<|p (bc c<|mg 7 4)<|aa<|Z H7 en_16 fun r51 _ H8=>J c<|p (aj c c)<|p (aj c c)<|aa<|aM (l:=ac.C (⟨0,0⟩:ac)) dc c c fun b11=>aa<|aO (k:=0) (vs:=ac.C r51.1) bN c c c c c c c<|O c<|M<|J c<|aa<|Z H8 en_20 fun r55 _ H9=>O c<|M<|J c<|be (bC (k:=5) oW c c c c) c<|aa<|Z H9 en_39 fun r59 _ H10=>J c<|p (aj c c)<|p (aj c c)<|p (ar c)<|O c<|M<|J c<|be (bC (k:=5) oW c c c c) c<|aa<|Z H10 en_40 fun r65 _ H11=>J c<|p (aj c c)<|p (aj c c)<|p (ar c)<|O c<|M<|aa<|Z H11 en_41 fun r68 _ H12=>O c<|M<|aa<|Z H12 en_42 fun r69 _ H13=>J c<|V c c (ax _) (fun g14=>wv<|ag c)<|p (bT c c)<|J c<|V c c (ax _) (fun g15=>wv<|ag c)<|p (bT c c)<|J c<|V c c (ax _) (fun g16=>wv<|ag c)<|p (bT c c)<|J c<|V c c (ax _) (fun g17=>wv<|ag c)<|p (bT c c)<|J c<|V c c (ax _) (fun g18=>wv<|ag c)<|p (bT c c)<|J c<|V c c (ax _) (fun g19=>wv<|ae kj c)<|V c c (ax _) (fun g20=>cv<|ba (k:=4) oB (aD c g20) c c)<|V c c (ax _) (fun g21=>wv<|bL (aD c g21) c)<|p (bT c c)<|J c<|V c c (ax _) (fun g22=>wv<|ae kj c)<|V c c (ax _) (fun g23=>cv<|ba (k:=3) oB (aD c g23) c c)<|V c c (ax _) (fun g24=>wv<|bL (aD c g24) c)<|p (bT c c)<|J c<|V c c (ax _) (fun g25=>wv<|ae kj c)<|V c c (ax _) (fun g26=>cv<|ba (k:=2) oB (aD c g26) c c)<|V c c (ax _) (fun g27=>wv<|bL (aD c g27) c)<|p (bT c c)<|J c<|V c c (ax _) (fun g28=>wv<|ae fld_30_1 c)<|V c c (ax _) (fun g29=>cv<|ba (k:=1) ct (aD c g29) c c)<|V c c (ax _) (fun g30=>wv<|bL (aD c g30) c)<|p (bT c c)<|J c<|V c c (ax _) (fun g31=>wv<|ae kj c)<|V c c (ax _) (fun g32=>cv<|ba (k:=0) oB (aD c g32) c c)<|V c c (ax _) (fun g33=>wv<|bL (aD c g33) c)<|p (bT c c)<|J c<|V c c (ax _) (fun g34=>wv<|ag c)<|V c c (ax _) (fun g35=>wv<|dy c Tryz.underlying43<|aD c g35)<|V c c (ax _) (fun g36=>wv<|bL (aD c g36) c)<|p (bT c c)<|J c<|V c c (ax _) (fun g37=>wv<|ag c)<|V c c (ax _) (fun g38=>wv<|bL (aD c g38) c)<|p (bT c c)<|J c<|V c c (ax _) (fun g39=>wv<|ag c)<|p (bT c c)<|J c<|V c c (ax _) (fun g40=>wv<|ag c)<|V c c (ax _) (fun g41=>wv<|bL (aD c g41) c)<|p (bT c c)<|J c<|V c c (ax _) (fun g42=>wv<|ag c)<|p (bT c c)<|J c<|V c c (ax _) (fun g43=>wv<|ag c)<|V c c (ax _) (fun g44=>cv<|bC (k:=5) oW c c c c)<|bO H13 (fun k46 H47=>F (D k46)<|fX H47 en_33 (aP (aD c k46)<|aP (aD c k46) bS) c fun r132 _ H48=>p (aQ c k46 c)<|J c<|V c c (ax _) (fun g49=>wv<|ag c)<|bO H48 (fun k51 H52=>F (D k51)<|fX H52 en_43 (aP (aD c k51) bS) c fun r136 _ H53=>F (D k51)<|I (dy c Tryz.underlying40 c)<|F (D k51)<|I (bL c c)<|p (aQ c k51 c)<|J c<|V c c (ax _) (fun g54=>wv<|ag c)<|V c c (ax _) (fun g55=>wv<|dy c Tryz.underlying59<|aD c g55)<|V c c (ax _) (fun g56=>wv<|bL (aD c g56) c)<|p (bT c c)<|J c<|V c c (ax _) (fun g57=>wv<|ag c)<|bO H53 (fun k59 H60=>F (D k59)<|fX H60 en_44 (aP (aD c k59)<|aP c<|aP c bS) c fun r147 _ H61=>p (aQ c k59 c)<|J c<|V c c (ax _) (fun g62=>wv<|ag c)<|bO H61 (fun k64 H65=>F (D k64)<|fX H65 en_30 (aP (aD c k64)<|aP c bS) c fun r151 _ H66=>F (D k64)<|I (dy c Tryz.underlying68 c)<|F (D k64)<|I (bL c c)<|p (aQ c k64 c)<|J c<|V c c (ax _) (fun g67=>wv<|ag c)<|V c c (ax _) (fun g68=>cv<|bC (k:=5) oW c c c c)<|bO H66 (fun k70 H71=>F (D k70)<|fX H71 en_19 (aP (aD c k70)<|aP (aD c k70) bS) c fun r158 _ H72=>p (aQ c k70 c)<|O c<|ai<|Y ⟨r158,c,H72⟩) fun k70 H71=>W (aS k70)<|p (ap c k70 c)<|O c<|ai<|Y ⟨false,c,H71⟩) fun k64 H65=>W (aS k64)<|W (aS k64)<|W (aS k64)<|p (ap c k64 c)<|J c<|W c<|W c<|W c<|p (ap c c c)<|O c<|ai<|Y ⟨false,c,H65⟩) fun k59 H60=>W (aS k59)<|p (ap c k59 c)<|J c<|W c<|W c<|W c<|W c<|p (ap c c c)<|J c<|W c<|W c<|W c<|p (ap c c c)<|O c<|ai<|Y ⟨false,c,H60⟩) fun k51 H52=>W (aS k51)<|W (aS k51)<|W (aS k51)<|p (ap c k51 c)<|J c<|W c<|W c<|W c<|p (ap c c c)<|J c<|W c<|W c<|p (ap c c c)<|J c<|W c<|W c<|W c<|W c<|p (ap c c c)<|J c<|W c<|W c<|W c<|p (ap c c c)<|O c<|ai<|Y ⟨false,c,H52⟩) fun k46 H47=>W (aS k46)<|p (ap c k46 c)<|J c<|W c<|W c<|W c<|W c<|p (ap c c c)<|J c<|W c<|W c<|W c<|p (ap c c c)<|J c<|W c<|W c<|p (ap c c c)<|J c<|W c<|W c<|W c<|W c<|p (ap c c c)<|J c<|W c<|W c<|W c<|p (ap c c c)<|O c<|ai<|Y ⟨false,c,H47⟩
def qJ (a0:Sl) (a1:Int) (K:Sl→Hp→Prop):Hp→Prop:=hpv Tryz.prog (Instr.sliceAt kW (sv a0) none (some (.int .i64 (mn (a0.len:Int) a1))) none) gV fun (v10:Sl)=>K v10
theorem sim_messuagelaw16_Cut (a0:Sl) (a1:Int) {K:Sl→Hp→Prop} {h:Hp} (H:qJ a0 a1 K h):Ct Tryz.prog mB #[(sv a0),(.int .i64 a1)] h fun v h'=>∃ r,v = gV r∧K r h':=au [(sv a0),(.int .i64 a1)] Tryz.func28 c c c fun _=>M<|O c<|M<|J c<|J c<|p (dy c Tryz.underlying59 c)<|J c<|p (v_minT c c)<|aa<|aR H (eM c c c c c) c fun v10 _ H1=>O c<|ai<|Y ⟨v10,c,H1⟩
def rE (a0:Ptr) (a1:ch) (K:Bool→Hp→Prop):Hp→Prop:=br (a1.fKind == 1) ( cl Tryz.prog kQ [(pv a0),(.int .i64 a1.fCore),(.int .i64 a1.fEnv),(.agg (ah.C a1.fCall).toArray)] aA fun r16=>K r16) ( br (a1.fKind == 2) ( cl Tryz.prog lV [(pv a0),(.int .i64 a1.fCore)] aA fun r22=>K r22) ( br (a1.fKind == 3) ( cl Tryz.prog lW [(pv a0),(.int .i64 a1.fCore)] aA fun r28=>K r28) ( br (a1.fKind == 4) ( cl Tryz.prog oK [(pv a0),(.int .i64 a1.fCore),(.int .i64 a1.fSet),(.int .i64 a1.fWay)] aA fun r40=>K r40) ( K false))))
theorem sim_messuagelaw16_Do (a0:Ptr) (a1:ch) {K:Bool→Hp→Prop} {h:Hp} (H:rE a0 a1 K h):Ct Tryz.prog np #[(pv a0),(.agg (ch.C a1).toArray)] h fun v h'=>∃ r,v = aA r∧K r h':=au [(pv a0),(.agg (ch.C a1).toArray)] Tryz.func29 c c c fun _=>M<|aa<|cC (l:=ch.C a1) c c c fun b3=>O c<|ak<|M<|p (ae fld_63_0 c)<|be (ba (k:=0) aY c c c) c<|ad<|ay<|M<|p (bL c c)<|O c<|av c H (fun k1 H2=>M<|J c<|p (ae fld_63_1 c)<|be (ba (k:=0) aY c c c) c<|p (ae fld_63_2 c)<|be (ba (k:=0) aY c c c) c<|p (ae fld_63_3 c)<|be (bC (k:=0) ff c c c c) c<|aa<|Z H2 en_22 fun r16 _ H3=>O c<|ai<|Y ⟨r16,c,H3⟩) fun k1 H2=>M<|p (bL c c)<|O c<|av c H2 (fun k4 H5=>M<|J c<|p (ae fld_63_1 c)<|be (ba (k:=0) aY c c c) c<|aa<|Z H5 en_23 fun r22 _ H6=>O c<|ai<|Y ⟨r22,c,H6⟩) fun k4 H5=>M<|p (bL c c)<|O c<|av c H5 (fun k7 H8=>M<|J c<|p (ae fld_63_1 c)<|be (ba (k:=0) aY c c c) c<|aa<|Z H8 en_64 fun r28 _ H9=>O c<|ai<|Y ⟨r28,c,H9⟩) fun k7 H8=>an<|M<|p (ae fld_63_0 c)<|be (ba (k:=0) aY c c c) c<|p (bL c c)<|J c<|V c c (ax _) (fun g10=>wv<|ag c)<|V c c (ax _) (fun g11=>wv<|ae fld_63_1 c)<|V c c (ax _) (fun g12=>cv<|ba (k:=0) aY (aD c g12) c c)<|V c c (ax _) (fun g13=>wv<|ae fld_63_4 c)<|V c c (ax _) (fun g14=>cv<|ba (k:=0) aY (aD c g14) c c)<|V c c (ax _) (fun g15=>wv<|ae fld_63_5 c)<|V c c (ax _) (fun g16=>cv<|ba (k:=0) aY (aD c g16) c c)<|bO H8 (fun k18 H19=>F (D k18)<|fX H19 en_65 (aP (aD c k18)<|aP (aD c k18)<|aP (aD c k18)<|aP (aD c k18) bS) c fun r40 _ H20=>p (aQ c k18 c)<|O c<|ai<|Y ⟨r40,c,H20⟩) fun k18 H19=>W (aS k18)<|p (ap c k18 c)<|O c<|ai<|Y ⟨false,c,H19⟩
def eB (r16:Sl) (r18:Ptr) (Rec7:Int→Hp→Prop) (s6:Int) (s11:Bool):Hp→Prop:=br s11 ( ix r16 s6 fun q42=>ld (q42.1,q42.2 + Int.toNat s6 * 10) ch.C fun x43=>cl Tryz.prog np [(pv r18),(.agg (ch.C x43).toArray)] aA fun r44=>Rec7 (IntKind.i64.wrap (s6 + 1))) ( Rec7 (IntKind.i64.wrap (s6 + 1)))
def iB (K:Bool→Hp→Prop) (r52:Sl) (Rec38:Int→Hp→Prop) (s37:Int):Hp→Prop:=br (decide (s37 < (r52.len:Int))) ( ix r52 s37 fun q56=>ld (q56.1,q56.2 + Int.toNat s37 * 16) aC.C fun x57=>br ((x57.fEnd == 0) || (x57.fEffect == 0)) ( K false) ( Rec38 (IntKind.i64.wrap (s37 + 1)))) ( K true)
def iC (a0:aw) (K:Bool→Hp→Prop) (r16:Sl) (r18:Ptr) (Rec7:Int→Hp→Prop) (s6:Int):Hp→Prop:=br (decide (s6 < (r16.len:Int))) ( ix r16 s6 fun q26=>ld (q26.1,q26.2 + Int.toNat s6 * 10 + 0) (cI .i64) fun x28=>br (!(x28 != 1)) ( ld (q26.1,q26.2 + Int.toNat s6 * 10 + 3 + 0) (cI .u64) fun x36=>eB r16 r18 Rec7 s6 (x36 != 9)) ( eB r16 r18 Rec7 s6 true)) ( cl Tryz.prog ft [(pv r18),(.int .i64 ((bW a0).fCores)),(.int .i64 1000)] aA fun r49=>br (!r49) ( K false) ( cl Tryz.prog fO [(pv r18)] eA fun r52=>Lp (iB K r52) 0))
def mj (a0:aw) (a1:Sl) (K:Bool→Hp→Prop):Hp→Prop:=cl Tryz.prog kz [] aA fun r10=>br (!r10) ( K false) ( cl Tryz.prog mB [(sv a1),(.int .i64 200)] gV fun r16=>cl Tryz.prog wW [(.agg (aw.C (bW a0)).toArray)] su fun r18=>Lp (iC a0 K r16 r18) 0)
theorem sN (a0:aw) (a1:Sl) {K:Bool→Hp→Prop} {h:Hp} (H:mj a0 a1 K h):Ct Tryz.prog mP #[(.agg (aw.C a0).toArray),(sv a1)] h fun v h'=>∃ r,v = aA r∧K r h':=au [(.agg (aw.C a0).toArray),(sv a1)] Tryz.func8 c c c fun _=>M<|aa<|cC (l:=aw.C a0) c c c fun b2=>O c<|M<|aa<|Z H en_14 fun r10 _ H1=>O c<|ak<|M<|J c<|p (cq c)<|ad<|av c H1 (fun k2 H3=>M<|O c<|ai<|Y ⟨false,c,H3⟩) fun k2 H3=>an<|M<|be (bC (k:=0) oW c c c c) c<|aa<|cF (vs:=[(.agg (aw.C a0).toArray)]) (bu<|ct_messuagelaw16_Size a0 _) en_27 c c<|J c<|aa<|Z H3 en_28 fun r16 _ H4=>aa<|aO (k:=0) (vs:=aw.C<|bW a0) inf_27 c c c c c c c<|O c<|M<|be (bC (k:=0) oW c c c c) c<|aa<|Z H4 en_21 fun r18 _ H5=>O c<|ak<|M<|J c<|p (dy c Tryz.underlying59 c)<|J c<|ad<|ay<|bE (step:=iC a0 K r16 r18) (fun s6=>[(1,(sv r16)),(2,(.pointer (some ⟨b2,0,none⟩))),(6,(pv r18)),(20,(.int .i64 (r16.len:Int))),(21,(.int .i64 s6))]) (fun s6=>[bx b2 27 (aw.C (bW a0))]) H5 (.cons c<|.cons c<|.cons c<|.cons c<|.cons c<|.nil _) (.cons_cons _ .slnil) fun Rec7 s6 _ H8=>M<|p (cu c c)<|ad<|ak<|av c H8 (fun k9 H10=>an<|ak<|ay<|M<|J c<|O c<|eu (eB r16 r18 Rec7 s6) (fun s11=>[(1,(sv r16)),(2,(.pointer (some ⟨b2,0,none⟩))),(6,(pv r18)),(7,(.int .i64 s6)),(20,(.int .i64 (r16.len:Int))),(21,(.int .i64 s6)),(38,(.bool s11))]) (fun s11=>[bx b2 27 (aw.C (bW a0))]) (aq<|J c<|J c<|cj H10 fun q26 e20 h21 H22=>p (bn slc_59 (aL c<|aZ e20) c h21)<|p (ae fld_63_0 c)<|aa<|aU H22 aY c (fun _=>c) c fun x28 H23=>p (pb c c)<|J c<|V c c (aH _) (fun g24=>wv<|ag c)<|V c c (aH _) (fun g25=>wv<|ag c)<|V c c (aH _) (fun g26=>wv<|bn slc_59 (aL (aD c g26)<|aZ e20) (aD c g26) h21)<|V c c (aH _) (fun g27=>wv<|ae fld_63_3<|aD c g27)<|V c c (aH _) (fun g28=>wv<|bp da (aD c g28) c (by decide))<|bO H23 (fun k30 H31=>F (D<|bH k30)<|aU H31 ct (aD c k30) (fun _=>c) c fun x36 H32=>F (D<|bH k30)<|I (pb c c)<|p (ap c (bH k30) c)<|ad<|cG (x36 != 9) H32 (.cons c<|.cons c<|.cons c<|.cons c<|.cons c<|.cons c<|.cons c<|.nil _)<|.cons_cons _ .slnil) fun k30 H31=>W (bG<|bi k30)<|W (bG<|bi k30)<|p (aQ c (bi k30) c)<|ad<|cG true H31 (.cons c<|.cons c<|.cons c<|.cons c<|.cons c<|.cons c<|.cons c<|.nil _)<|.cons_cons _ .slnil) fun s11 _ H12=>av c H12 (fun k13 H14=>aq<|J c<|J c<|J c<|cj H14 fun q42 e15 h16 H17=>p (bn slc_59 (aL c<|aZ e15) c h16)<|aa<|gu H17 ag_63 c (fun _=>c) c fun x43 H18=>aa<|Z H18 en_29 fun r44 _ H19=>ad<|aq<|p (bq c c)<|J c<|ad<|cL (IntKind.i64.wrap (s6 + 1)) H19 (.cons c<|.cons c<|.cons c<|.cons c<|.cons c<|.nil _)<|.cons_cons _ .slnil) fun k13 H14=>an<|aq<|p (bq c c)<|J c<|ad<|cL (IntKind.i64.wrap (s6 + 1)) H14 (.cons c<|.cons c<|.cons c<|.cons c<|.cons c<|.nil _)<|.cons_cons _ .slnil) fun k9 H10=>bj<|ak<|M<|J c<|p (ae lB c)<|be (ba (k:=0) aY c c c) c<|aa<|Z H10 en_24 fun r49 _ H33=>p (cq c)<|ad<|av c H33 (fun k34 H35=>M<|O c<|ai<|Y ⟨false,c,H35⟩) fun k34 H35=>an<|ak<|M<|J c<|aa<|Z H35 en_20 fun r52 _ H36=>p (dy c Tryz.underlying43 c)<|J c<|ad<|ay<|bE (step:=iB K r52) (fun s37=>[(52,(sv r52)),(53,(.int .i64 (r52.len:Int))),(54,(.int .i64 s37))]) (fun s37=>[]) H36 (.cons c<|.cons c<|.cons c<|.nil _) (.cons _ .slnil) fun Rec38 s37 _ H39=>M<|p (cu c c)<|ad<|ak<|av c H39 (fun k40 H41=>an<|ak<|ay<|M<|cj H41 fun q56 e42 h43 H44=>p (bn ra (aL c<|aZ e42) c h43)<|aa<|gu H44 ag_54 c (fun _=>c) c fun x57 H45=>aa<|aM (l:=aC.C (⟨0,0,(⟨0,0,0,0,0⟩:ah),0,0,0,(⟨0,0⟩:ac),(⟨0,0,0,0⟩:am)⟩:aC)) zero_54 c c fun b9=>aa<|aO (k:=0) (vs:=aC.C x57) inf_54 c c c c c c c<|ad<|M<|p (ae oS c)<|be (ba (k:=0) aY c c c) c<|p (bL c c)<|J c<|V c c (aH _) (fun g46=>wv<|ae ik c)<|V c c (aH _) (fun g47=>cv<|ba (k:=0) aY (aD c g47) c c)<|V c c (aH _) (fun g48=>wv<|bL (aD c g48) c)<|p (dh c c)<|ad<|av c H45 (fun k49 H50=>M<|O c<|ai<|Y ⟨false,c,H50⟩) fun k49 H50=>an<|aq<|p (bq c c)<|J c<|ad<|cL (IntKind.i64.wrap (s37 + 1)) H50 (.cons c<|.cons c<|.cons c<|.nil _)<|.cons _ .slnil) fun k40 H41=>bj<|M<|O c<|ai<|Y ⟨true,c,H41⟩
end Go.Proofs.YtmggcfijlpldpaaGreatDoor
