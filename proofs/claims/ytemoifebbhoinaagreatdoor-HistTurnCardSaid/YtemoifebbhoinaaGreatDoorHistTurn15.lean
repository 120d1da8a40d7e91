/- Part of the proof of: The law HistTurn returns true for every input, and leaves its arguments as they were. -/
import Derived.Test.YtemoifebbhoinaaGreatDoorHistTurn14
set_option linter.all false
set_option maxRecDepth 20000
namespace Go.Proofs.YtemoifebbhoinaaGreatDoor
open Go Mb
abbrev vG (s:Sl) (xs:List Pte):As:=vec t_api_Pte 3 al.C s xs
theorem pte_one (p:Pte):dL p.C = true:=rfl
namespace Judge
def ev (es:List bq) (i:Int):bq:=es.getD i.toNat Hist.ev00
def takes (e:bq):Bool:=(aE e.fCall).1 == 7 || (aE e.fCall).1 == 8 || (aE e.fCall).1 == 4 || (aE e.fCall).1 == 5
def othersFrom (k:PK) (es:List bq) (env pg:Int):List Int→List Pte
  | []=>[]
  | i::l=>if takes (ev es i) = true then (PK.pte (PK.do_ k (ev es i).fEnv (ev es i).fCall).2 env pg).1::othersFrom k es env pg l else othersFrom k es env pg l
def others (k:PK) (es:List bq) (at_ env pg:Int):List Pte:=(PK.pte k env pg).1::othersFrom k es env pg (Hist.over es at_)
def faults (e:bq) (l:List Pte):Bool:=l.any fun p=>!(dw p.fRights (IntKind.i64.wrap e.fCall.e0))
def goes (e:bq) (l:List Pte):Bool:=l.any fun p=>(p.fFrame == e.fLine.fFrame) && (aV e.fLine.fRights p.fRights)
def own (e:bq):Bool:=((e.fLine.fEnv == e.fEnv) && (e.fLine.fPage == (IntKind.i64.wrap e.fCall.e1))) && (dw e.fLine.fRights (IntKind.i64.wrap e.fCall.e0))
def access (k:PK) (es:List bq) (s:eH) (e:bq):Bool :=
  if Word.check e.fCall s.fEnvs ≠ 0 then (ac.eqb e.fAnswer ⟨Word.check e.fCall s.fEnvs,0⟩) && (am.eqb e.fLine kV)
  else if e.fAnswer.fErr = 7 then (faults e (others k es e.fEffect e.fEnv (IntKind.i64.wrap e.fCall.e1)) && (e.fAnswer.fVal == 0)) && (am.eqb e.fLine kV)
  else ((goes e (others k es e.fEffect e.fEnv (IntKind.i64.wrap e.fCall.e1)) && own e) && (PK.touch k e.fLine.fFrame e.fCall).1.2) && (ac.eqb (PK.touch k e.fLine.fFrame e.fCall).1.1 e.fAnswer)
def well (s:eH) (e:bq):Bool:=(e.fAnswer.fErr == 0) && (Word.check e.fCall s.fEnvs == 0) && (e.fLine.fRights != 0)
def runFrom (es:List bq) (s:eH) (lin acc:Bool):PK→List Int→Int × Bool
  | _,[]=>(-1,true)
  | k,i::l =>
    if jv (ev es i) = true then (if acc = true∧access k es s (ev es i) = false then (i,false) else runFrom es s lin acc (if well s (ev es i) = true then (PK.touch k (ev es i).fLine.fFrame (ev es i).fCall).2 else k) l)
    else if lin = true∧((PK.do_ k (ev es i).fEnv (ev es i).fCall).1.2 = false∨ac.eqb (PK.do_ k (ev es i).fEnv (ev es i).fCall).1.1 (ev es i).fAnswer = false) then (i,false)
    else runFrom es s lin acc (PK.do_ k (ev es i).fEnv (ev es i).fCall).2 l
def run (es:List bq) (s:eH) (lin acc:Bool):Int × Bool:=if Hist.may es s = true then runFrom es s lin acc (PK.new s) (Hist.order es) else (-1,false)
def linear (es:List bq) (s:eH):Int × Bool:=run es s true false
def accesses (es:List bq) (s:eH):Int × Bool:=run es s false true
def right (es:List bq) (s:eH):Bool:=(linear es s).2 && (accesses es s).2
theorem ev_nat {es:List bq} {n:Nat} (h:n < es.length):ev es n = es[n]:=by simp [ev,h]
theorem othersFrom_app (k:PK) (es:List bq) (env pg:Int) (i:Int):∀ l,othersFrom k es env pg (l++[i]) = othersFrom k es env pg l++(if takes (ev es i) = true then [(PK.pte (PK.do_ k (ev es i).fEnv (ev es i).fCall).2 env pg).1] else [])
  | []=>by simp only [List.nil_append,othersFrom]
  | j::l=>by
    simp only [List.cons_append,othersFrom,othersFrom_app k es env pg i l]
    split <;> simp
theorem othersFrom_len (k:PK) (es:List bq) (env pg:Int):∀ l,(othersFrom k es env pg l).length ≤ l.length
  | []=>Nat.le_refl _
  | i::l=>by unfold othersFrom; have:=othersFrom_len k es env pg l; split <;> simp <;> omega
end Judge
abbrev jc (s:Sl) (z:eH) (pk:Ptr):List Value:=[sv s,.int .i64 z.fCores,.int .i64 z.fEnvs,.int .i64 z.fFrames,pv pk]
theorem sp_judge_others (jb:Nat) (s:Sl) (z:eH) (pk:Ptr) (es:List bq) (k:PK) (a env pg:Int) (hb:es.length < 2 ^ 38) :
    Sp Tryz.prog lM [pv (some (jb,0)),.int .i64 a,.int .i64 env,.int .i64 pg] qx [blk jb dn (jc s z pk),vE s es,bt pk k] (fun r=>aF [vG r (Judge.others k es a env pg),blk jb dn (jc s z pk),vE s es,bt pk k]):=by
  intro h s0
  refine wS _ _ _ _ ?_
  unfold pP
  refine cE (bp pk s0 (i:=0) rfl rfl rfl ?_)
  refine bR (sd pk k env pg) (i:=2) rfl s0 fun r h1 hr s1=>?_
  subst hr
  refine fH (τ:=Pte) [(PK.pte k env pg).1] (val:=fun x=>.agg x.C.toArray) (enc:=al.C) el_Sapi_Pte jA (fun _=>rfl) s1 rfl rfl (by simp) fun v h2 s2=>?_
  refine bp s s2 (i:=1) rfl rfl rfl ?_
  refine xH (sp_hist_Over s es a hb) (i:=2) rfl s2 fun r37 h3 s3=>?_
  have hrl:=(ce (j:=0) s3 rfl).1
  have hol:=Hist.placesFrom_len (fun e=>decide (e.fBegin ≤ a) && (e.fEffect == 0 || decide (e.fEffect > a))) es 0
  have hol':(Hist.over es a).length ≤ es.length:=hol
  refine Lp.intro (fun (y:Sl × Int) h=>∃ n:Nat,y.2 = n∧n ≤ (Hist.over es a).length∧aF [vI r37 (Hist.over es a),vG y.1 ((PK.pte k env pg).1::Judge.othersFrom k es env pg ((Hist.over es a).take n)),blk jb dn (jc s z pk),vE s es,bt pk k] h) (fun (y:Sl × Int) _=>(Hist.over es a).length - y.2.toNat) ⟨0,rfl,Nat.zero_le _,s3⟩ ?_
  rintro ⟨y,i⟩ h ⟨n,rfl,hn,s4⟩
  unfold kW
  refine aY (fun d=>?_) (fun d=>?_)
  · have hlt:n < (Hist.over es a).length:=by rw [hrl] at d; have:=of_decide_eq_true d; simp at this; exact this
    have hw:IntKind.i64.wrap ((n:Int) + 1) = ((n + 1:Nat):Int):=by rw [bP (by omega) (by omega)]; rfl
    have ht:(Hist.over es a).take (n + 1) = (Hist.over es a).take n++[(Hist.over es a)[n]]:=by simp
    have hin:=Hist.places_in (List.getElem_mem hlt)
    have hes:=(ce (j:=3) s4 rfl).1
    obtain ⟨m,hm⟩:=Int.eq_ofNat_of_zero_le hin.1
    have hml:m < es.length:=by omega
    have hev:Judge.ev es (Hist.over es a)[n] = es[m]:=by rw [hm,Judge.ev_nat hml]
    have happ:=Judge.othersFrom_app k es env pg (Hist.over es a)[n] ((Hist.over es a).take n)
    rw [hev] at happ
    have hfl:=Judge.othersFrom_len k es env pg ((Hist.over es a).take n)
    simp at hfl
    refine du s4 (j:=0) rfl (by omega) (by show (n:Int) < _; omega) fun q hq=>?_
    refine dU (j:=0) (i:=n) (k:=0) (Hist.over es a)[n] (dm _) s4 rfl hq (by simp) (aD hlt) (by simp) ?_
    rw [hm]
    refine bp s s4 (i:=2) rfl rfl rfl ?_
    refine du s4 (j:=3) rfl (by omega) (by omega) fun q2 hq2=>?_
    refine dU (j:=3) (i:=m) (k:=0) es[m] iF s4 rfl hq2 rfl (aD hml) (by simp) ?_
    have j1:∀ b,b = Judge.takes es[m]→dV env pg (jb,0) (fun s' h'=>(∃ n:Nat,s'.2 = n∧n ≤ (Hist.over es a).length∧aF [vI r37 (Hist.over es a),vG s'.1 ((PK.pte k env pg).1::Judge.othersFrom k es env pg ((Hist.over es a).take n)),blk jb dn (jc s z pk),vE s es,bt pk k] h')∧(Hist.over es a).length - s'.2.toNat < (Hist.over es a).length - (n:Int).toNat) (y,(n:Int)) es[m] b h:=by
      intro b hb2
      unfold dV
      rw [hb2,hw]
      refine aY (fun d2=>?_) (fun d2=>?_)
      · refine bp pk s4 (i:=2) rfl rfl rfl ?_
        refine xH (uP pk k) (i:=4) rfl s4 fun r66 h5 s5=>?_
        refine bR (jY r66 k es[m].fEnv es[m].fCall) (i:=0) rfl s5 fun r h6 hr s6=>?_
        refine bR (sd r66 _ env pg) (i:=0) rfl s6 fun r h7 hr s7=>?_
        subst hr
        refine kM (τ:=Pte) (i:=2) (enc:=al.C) (val:=fun x=>.agg x.C.toArray) el_Sapi_Pte jA pte_one (fun _=>rfl) (by omega) rfl rfl s7 rfl (by simp; omega) (by simp; omega) fun v h8 s8=>?_
        refine ⟨⟨n + 1,rfl,hlt,?_⟩,by simp; omega⟩
        rw [ht,happ,if_pos d2]
        exact bZ (l:=[bt r66 _]) s8
      · refine ⟨⟨n + 1,rfl,hlt,?_⟩,by simp; omega⟩
        rw [ht,happ,if_neg (by rw [d2]; exact Bool.false_ne_true),List.append_nil]
        exact s4
    refine aY (fun c=>j1 _ (by unfold Judge.takes; rw [c]; rfl)) (fun c=>?_)
    refine aY (fun c2=>j1 _ (by unfold Judge.takes; rw [c,c2]; rfl)) (fun c2=>?_)
    refine aY (fun c3=>j1 _ (by unfold Judge.takes; rw [c,c2,c3]; rfl)) (fun c3=>j1 _ (by unfold Judge.takes; rw [c,c2,c3]; rfl))
  · have:n = (Hist.over es a).length:=by rw [hrl] at d; have:=of_decide_eq_false d; simp at this; omega
    subst this
    rw [List.take_length] at s4
    exact bZ (l:=[vI r37 (Hist.over es a)]) s4
theorem any_snoc {α:Type} (f:α→Bool) (l:List α) (x:α):(l++[x]).any f = (l.any f || f x):=by simp
theorem sp_judge_access (jb:Nat) (s:Sl) (z:eH) (pk:Ptr) (es:List bq) (k:PK) (e:bq) (hb:es.length < 2 ^ 38) :
    Sp Tryz.prog lN [pv (some (jb,0)),.agg e.C.toArray] aA [blk jb dn (jc s z pk),vE s es,bt pk k] (fun r=>pa_ (r = Judge.access k es z e) [blk jb dn (jc s z pk),vE s es,bt pk k]):=by
  intro h s0
  refine wT _ _ ?_
  unfold pQ
  refine cE (bp z.fEnvs s0 (i:=0) rfl rfl rfl ?_)
  refine tV (ju e.fCall z.fEnvs) s0 fun r h1 hr s1=>?_
  subst hr
  refine aY (fun d=>?_) (fun d=>?_)
  · exact aZ (by unfold Judge.access; rw [if_pos (by simpa using d)]) s1
  · have d':¬ Word.check e.fCall z.fEnvs ≠ 0:=by simpa using d
    refine cR [0,0,0] (sp_judge_others jb s z pk es k e.fEffect e.fEnv (IntKind.i64.wrap e.fCall.e1) hb) s1 rfl fun r50 h2 s2=>?_
    have s3:=dE s2
    have hrl:=(ce (j:=0) s3 rfl).1
    have hol':(Hist.over es e.fEffect).length ≤ es.length:=Hist.placesFrom_len _ es 0
    have hfl:=Judge.othersFrom_len k es e.fEnv (IntKind.i64.wrap e.fCall.e1) (Hist.over es e.fEffect)
    have hll:(Judge.others k es e.fEffect e.fEnv (IntKind.i64.wrap e.fCall.e1)).length < 2 ^ 39:=by unfold Judge.others; simp; omega
    generalize hL:Judge.others k es e.fEffect e.fEnv (IntKind.i64.wrap e.fCall.e1) = L at *
    refine Lp.intro (fun (y:Bool × Bool × Int) h=>∃ n:Nat,y.2.2 = n∧n ≤ L.length∧y.1 = Judge.faults e (L.take n)∧y.2.1 = Judge.goes e (L.take n)∧aF [vG r50 L,blk jb dn (jc s z pk),vE s es,bt pk k] h) (fun (y:Bool × Bool × Int) _=>L.length - y.2.2.toNat) ⟨0,rfl,Nat.zero_le _,rfl,rfl,s3⟩ ?_
    rintro ⟨f,g,i⟩ h ⟨n,rfl,hn,hf,hg,s4⟩
    simp only at hf hg
    unfold kX
    refine aY (fun d2=>?_) (fun d2=>?_)
    · have hlt:n < L.length:=by rw [hrl] at d2; have:=of_decide_eq_true d2; simp at this; exact this
      have hw:IntKind.i64.wrap ((n:Int) + 1) = ((n + 1:Nat):Int):=by rw [bP (by omega) (by omega)]; rfl
      have ht:L.take (n + 1) = L.take n++[L[n]]:=by simp
      refine du s4 (j:=0) rfl (by show (0:Int) ≤ n; omega) (by show (n:Int) < _; omega) fun q hq=>?_
      refine dU (j:=0) (i:=n) (k:=0) L[n] jA s4 rfl hq rfl (aD hlt) (by simp) ?_
      rw [hw]
      refine ⟨⟨n + 1,rfl,hlt,?_,?_,s4⟩,by simp; omega⟩
      · unfold Judge.faults; rw [ht,any_snoc]; show (f || _) = _; rw [hf]; rfl
      · unfold Judge.goes; rw [ht,any_snoc]; show (g || _) = _; rw [hg]; rfl
    · have:n = L.length:=by rw [hrl] at d2; have:=of_decide_eq_false d2; simp at this; omega
      subst this
      rw [List.take_length] at hf hg
      have s5:=bZ (l:=[vG r50 L]) s4
      refine aY (fun d3=>?_) (fun d3=>?_)
      · refine aZ ?_ s5
        unfold Judge.access
        rw [if_neg d',if_pos (by simpa using d3),hL,← hf]
      · refine bp pk s4 (i:=1) rfl rfl rfl ?_
        refine xH (uP pk k) (i:=2) rfl s5 fun r104 h6 s6=>?_
        refine bR (oH r104 k e.fLine.fFrame e.fCall) (i:=0) rfl s6 fun r h7 hr s7=>?_
        subst hr
        refine aZ ?_ (bZ (l:=[bt r104 _]) s7)
        unfold Judge.access
        rw [if_neg d',if_neg (by simpa using d3),hL,← hg]
        rfl
theorem sp_judge_well (jb:Nat) (s:Sl) (z:eH) (pk:Ptr) (e:bq) :
    Sp Tryz.prog nK [pv (some (jb,0)),.agg e.C.toArray] aA [blk jb dn (jc s z pk)] (fun r=>pa_ (r = Judge.well z e) [blk jb dn (jc s z pk)]):=by
  intro h s0
  refine sim_judge_judge_well _ _ ?_
  unfold rQ
  refine aY (fun d=>?_) (fun d=>?_)
  · refine cE (bp z.fEnvs s0 (i:=0) rfl rfl rfl ?_)
    refine tV (ju e.fCall z.fEnvs) s0 fun r h1 hr s1=>?_
    subst hr
    refine aY (fun d2=>?_) (fun d2=>?_)
    · exact aZ (by unfold Judge.well; rw [d,d2]; rfl) s1
    · exact aZ (by unfold Judge.well; rw [d,d2]; rfl) s1
  · exact aZ (by unfold Judge.well; rw [d]; rfl) s0
abbrev OrdOk (s:Sl) (es:List bq):Prop:=Sp Tryz.prog pj [sv s] cG [vE s es] (fun r=>aF [vI r (Hist.order es),vE s es])
theorem order_in {es:List bq} {x:Int} (h:x ∈ Hist.order es):0 ≤ x∧x < es.length:=Hist.places_in ((Hist.isort_perm _ _).subset h)
theorem order_len (es:List bq):(Hist.order es).length ≤ es.length:=by
  have h1:=(Hist.isort_perm (Hist.eff es) (Hist.effs es)).length_eq
  have h2:=Hist.placesFrom_len (fun e=>decide (e.fEffect > 0)) es 0
  unfold Hist.order; rw [h1]; exact h2
theorem sp_judge_run (s:Sl) (es:List bq) (z:eH) (lin acc:Bool) (hz:PK.sized z = true) (hb:es.length < 2 ^ 38) (ho:Hist.Apart es→OrdOk s es) :
    Sp Tryz.prog uE [sv s,.agg z.C.toArray,.bool lin,.bool acc] bQ [vE s es] (fun r=>pa_ (r = Judge.run es z lin acc) [vE s es]):=by
  intro h s0
  refine sim_judge_run _ _ _ _ ?_
  unfold sh_judge_run
  refine bR (ua s es z hb) (i:=0) rfl s0 fun r h1 hr s1=>?_
  subst hr
  refine aY (fun d=>?_) (fun d=>?_)
  · exact aZ (by unfold Judge.run; rw [if_neg (by simpa using d)]) s1
  · have d':Hist.may es z = true:=by simpa using d
    have er:Judge.run es z lin acc = Judge.runFrom es z lin acc (PK.new z) (Hist.order es):=if_pos d'
    rw [er]
    refine mC (se z hz) s1 fun pk h2 s2=>?_
    refine pD s2 fun b25 h3 s3=>?_
    refine xH (ho (Hist.may_apart d')) (i:=2) rfl s3 fun r27 h4 s4=>?_
    have hol:=order_len es
    have hrl:=(ce (j:=0) s4 rfl).1
    refine Lp.intro (fun (i:Int) h=>∃ (n:Nat) (k:PK),i = n∧n ≤ (Hist.order es).length∧Judge.runFrom es z lin acc k ((Hist.order es).drop n) = Judge.runFrom es z lin acc (PK.new z) (Hist.order es)∧aF [vI r27 (Hist.order es),blk b25 dn (jc s z pk),bt pk k,vE s es] h) (fun (i:Int) _=>(Hist.order es).length - i.toNat) ⟨0,_,rfl,Nat.zero_le _,rfl,s4⟩ ?_
    rintro i h ⟨n,k,rfl,hn,he,s5⟩
    have fin:∀ h,aF [vI r27 (Hist.order es),blk b25 dn (jc s z pk),bt pk k,vE s es] h→aF [vE s es] h:=fun h s=>bZ (l:=[_,_,_]) s
    unfold xq
    refine aY (fun d2=>?_) (fun d2=>?_)
    · have hlt:n < (Hist.order es).length:=by rw [hrl] at d2; simpa using d2
      have hw:IntKind.i64.wrap ((n:Int) + 1) = ((n + 1:Nat):Int):=by rw [bP (by omega) (by omega)]; rfl
      have hin:=order_in (List.getElem_mem hlt)
      have hes:=(ce (j:=3) s5 rfl).1
      obtain ⟨m,hm⟩:=Int.eq_ofNat_of_zero_le hin.1
      have hml:m < es.length:=by omega
      have hev:Judge.ev es (Hist.order es)[n] = es[m]:=by rw [hm,Judge.ev_nat hml]
      rw [List.drop_eq_getElem_cons hlt,Judge.runFrom,hev] at he
      refine du s5 (j:=0) rfl (by omega) (by omega) fun q hq=>?_
      refine dU (j:=0) (i:=n) (k:=0) (Hist.order es)[n] (dm _) s5 rfl hq (by simp) (aD hlt) (by simp) ?_
      rw [hm]
      refine du s5 (j:=3) rfl (by omega) (by omega) fun q2 hq2=>?_
      refine dU (j:=3) (i:=m) (k:=0) es[m] iF s5 rfl hq2 rfl (aD hml) (by simp) ?_
      have hmi:((m:Int),false) = ((Hist.order es)[n],false):=by rw [hm]
      refine aY (fun d3=>?_) (fun d3=>?_)
      · rw [if_pos d3] at he
        have j1:∀ h,(acc = true∧Judge.access k es z es[m] = false) = False→aF [vI r27 (Hist.order es),blk b25 dn (jc s z pk),bt pk k,vE s es] h→su b25 (fun s' h'=>(∃ (n:Nat) (k:PK),s' = n∧n ≤ (Hist.order es).length∧Judge.runFrom es z lin acc k ((Hist.order es).drop n) = Judge.runFrom es z lin acc (PK.new z) (Hist.order es)∧aF [vI r27 (Hist.order es),blk b25 dn (jc s z pk),bt pk k,vE s es] h')∧(Hist.order es).length - s'.toNat < (Hist.order es).length - (n:Int).toNat) (n:Int) es[m] () h:=by
          intro h hno s6
          rw [if_neg (by rw [hno]; exact not_false)] at he
          unfold su
          refine bR (sp_judge_well b25 s z pk es[m]) (i:=1) rfl s6 fun r h7 hr s7=>?_
          subst hr
          rw [hw]
          refine aY (fun d4=>?_) (fun d4=>?_)
          · rw [if_pos d4] at he
            refine bp pk s7 (i:=1) rfl rfl rfl ?_
            refine bR (oH pk k es[m].fLine.fFrame es[m].fCall) (i:=2) rfl s7 fun r h8 hr s8=>?_
            exact ⟨⟨n + 1,_,rfl,hlt,he,s8⟩,by simp; omega⟩
          · rw [if_neg (by rw [d4]; exact Bool.false_ne_true)] at he
            exact ⟨⟨n + 1,_,rfl,hlt,he,s7⟩,by simp; omega⟩
        unfold sq
        refine aY (fun d4=>?_) (fun d4=>?_)
        · refine cR [1,2,1] (sp_judge_access b25 s z pk es k es[m] hb) s5 rfl fun r h6 s6=>?_
          obtain ⟨hr,s7⟩:=bu.1 s6
          subst hr
          have s8:aF [vI r27 (Hist.order es),blk b25 dn (jc s z pk),bt pk k,vE s es] h6:=bc [3,0,1] s7 rfl
          refine aY (fun d5=>?_) (fun d5=>?_)
          · rw [if_pos ⟨d4,by simpa using d5⟩] at he
            exact aZ (by rw [← he,hm]) (fin _ s8)
          · exact j1 h6 (by simp; intro _; simpa using d5) s8
        · refine dI rfl ?_
          exact j1 h (by rw [d4]; simp) s5
      · rw [if_neg (by rw [d3]; exact Bool.false_ne_true)] at he
        refine bp pk s5 (i:=1) rfl rfl rfl ?_
        refine bR (jY pk k es[m].fEnv es[m].fCall) (i:=2) rfl s5 fun r h6 hr s6=>?_
        subst hr
        refine aY (fun d4=>?_) (fun d4=>?_)
        · have d4':lin = true∧((PK.do_ k es[m].fEnv es[m].fCall).1.2 = false∨ac.eqb (PK.do_ k es[m].fEnv es[m].fCall).1.1 es[m].fAnswer = false):=by simpa using d4
          rw [if_pos d4'] at he
          exact aZ (by rw [← he,hm]) (bZ (l:=[_,_,_]) s6)
        · have d4':¬ (lin = true∧((PK.do_ k es[m].fEnv es[m].fCall).1.2 = false∨ac.eqb (PK.do_ k es[m].fEnv es[m].fCall).1.1 es[m].fAnswer = false)):=by simpa using d4
          rw [if_neg d4'] at he
          rw [hw]
          exact ⟨⟨n + 1,_,rfl,hlt,he,s6⟩,by simp; omega⟩
    · have:n = (Hist.order es).length:=by rw [hrl] at d2; simp at d2; omega
      subst this
      rw [List.drop_length] at he
      exact aZ he (fin h s5)
section
variable (s:Sl) (es:List bq) (z:eH) (hz:PK.sized z = true) (hb:es.length < 2 ^ 38) (ho:Hist.Apart es→OrdOk s es)
include hz hb ho
theorem sp_judge_Linear:Sp Tryz.prog pf [sv s,.agg z.C.toArray] bQ [vE s es] (fun r=>pa_ (r = Judge.linear es z) [vE s es]):=by
  intro h s0
  refine sim_judge_Linear _ _ ?_
  unfold sh_judge_Linear
  exact bR (sp_judge_run s es z true false hz hb ho) (i:=0) rfl s0 fun r h1 hr s1=>aZ hr s1
theorem sp_judge_Access:Sp Tryz.prog ph [sv s,.agg z.C.toArray] bQ [vE s es] (fun r=>pa_ (r = Judge.accesses es z) [vE s es]):=by
  intro h s0
  refine sim_judge_Access _ _ ?_
  unfold sh_judge_Access
  exact bR (sp_judge_run s es z false true hz hb ho) (i:=0) rfl s0 fun r h1 hr s1=>aZ hr s1
theorem sp_judge_Right:Sp Tryz.prog uZ [sv s,.agg z.C.toArray] aA [vE s es] (fun r=>pa_ (r = Judge.right es z) [vE s es]):=by
  intro h s0
  refine sim_judge_Right _ _ ?_
  unfold sh_judge_Right
  refine bR (sp_judge_Linear s es z hz hb ho) (i:=0) rfl s0 fun r h1 hr s1=>?_
  subst hr
  exact bR (sp_judge_Access s es z hz hb ho) (i:=0) rfl s1 fun r h2 hr s2=>aZ (by rw [hr]; rfl) s2
end
end Go.Proofs.YtemoifebbhoinaaGreatDoor
namespace Go.Proofs.YtemoifebbhoinaaGreatDoor
open Go Mb
structure Ev1 (k:KK) (e:bq):Prop where
  c0:0 ≤ e.fCore
  c1:e.fCore < k.p.s.fCores
  v0:0 ≤ e.fEnv
  v1:e.fEnv < k.p.s.fEnvs
  b0:1 ≤ e.fBegin
  b1:e.fBegin ≤ k.now
  st:(e.fEffect = 0∧e.fEnd = 0)∨(e.fBegin < e.fEffect∧e.fEnd = e.fEffect∧e.fEffect ≤ k.now)
structure kh (k:KK):Prop where
  one:∀ (i:Nat) e,k.events[i]? = some e→Ev1 k e
  up:∀ (i j:Nat) d e,i < j→k.events[i]? = some d→k.events[j]? = some e→d.fBegin < e.fBegin
  ef:∀ (i j:Nat) d e,k.events[i]? = some d→k.events[j]? = some e→d.fEffect > 0→d.fEffect = e.fEffect→i = j
  co:∀ (i j:Nat) d e,i < j→k.events[i]? = some d→k.events[j]? = some e→d.fCore = e.fCore→d.fEnd > 0∧d.fEnd < e.fBegin
  call:∀ (c:Nat) x,k.calls[c]? = some (some x)→∃ n:Nat,x.fat = n∧∃ e,k.events[n]? = some e∧e.fCore = c∧e.fEnv = x.fenv∧e.fCall = x.fc∧e.fEffect = 0
  open_:∀ (i:Nat) e,k.events[i]? = some e→e.fEffect = 0→∃ x,k.calls[e.fCore.toNat]? = some (some x)∧x.fat = i
theorem evinv_new (s:eH):kh (KK.new s):=by
  have hn:∀ i:Nat,(KK.new s).events[i]? = none:=fun i=>by simp [KK.new]
  refine ⟨fun i e h=>?_,fun i j d e _ h _=>?_,fun i j d e h _ _ _=>?_,fun i j d e _ h _ _=>?_,fun c x h=>absurd h (xf s c x),fun i e h _=>?_⟩ <;> (rw [hn] at h; cases h)
theorem Ev1.later {k k':KK} {e:bq} (h:Ev1 k e) (hs:k'.p.s = k.p.s) (hn:k.now ≤ k'.now):Ev1 k' e :=
  ⟨h.c0,by rw [hs]; exact h.c1,h.v0,by rw [hs]; exact h.v1,h.b0,by have:=h.b1; omega,by rcases h.st with a | a; exact .inl a; exact .inr ⟨a.1,a.2.1,by omega⟩⟩
theorem kh.same {k k':KK} (E:kh k) (he:k'.events = k.events) (hs:k'.p.s = k.p.s) (hn:k.now ≤ k'.now) (h1:∀ (c:Nat) x,k'.calls[c]? = some (some x)→∃ y,k.calls[c]? = some (some y)∧y.fat = x.fat∧y.fenv = x.fenv∧y.fc = x.fc) (h2:∀ (c:Nat) x,k.calls[c]? = some (some x)→∃ y,k'.calls[c]? = some (some y)∧y.fat = x.fat):kh k':=by
  refine ⟨fun i e h=>?_,fun i j d e hij h h'=>?_,fun i j d e h h'=>?_,fun i j d e hij h h'=>?_,fun c x hx=>?_,fun i e h h0=>?_⟩
  · rw [he] at h; exact (E.one i e h).later hs hn
  · rw [he] at h h'; exact E.up i j d e hij h h'
  · rw [he] at h h'; exact E.ef i j d e h h'
  · rw [he] at h h'; exact E.co i j d e hij h h'
  · obtain ⟨y,hy,e1,e2,e3⟩:=h1 c x hx
    obtain ⟨n,hn1,e,g1,g2,g3,g4,g5⟩:=E.call c y hy
    exact ⟨n,e1 ▸ hn1,e,by rw [he]; exact g1,g2,e2 ▸ g3,e3 ▸ g4,g5⟩
  · rw [he] at h
    obtain ⟨x,hx,e1⟩:=E.open_ i e h h0
    obtain ⟨y,hy,e2⟩:=h2 _ x hx
    exact ⟨y,hy,e2.trans e1⟩
theorem kh.begin {k:KK} (E:kh k) (ok:KK.Ok k) (hn:k.now < 2 ^ 40) (core env:Int) (c:dv):kh (KK.begin_ k core env c).2:=by
  unfold KK.begin_
  split
  · exact E
  · rename_i h
    simp only [not_or,Bool.not_eq_false,Bool.not_eq_true] at h
    obtain ⟨hi,hb,h0,h1⟩:=h
    obtain ⟨n,rfl,hlt⟩:=qI hi
    have hnone:k.calls[n]? = some none:=by
      cases hx:k.calls[n]? with
      | none=>rw [List.getElem?_eq_getElem hlt] at hx; cases hx
      | some o =>
        cases o with
        | none=>rfl
        | some x =>
          exfalso
          unfold KK.busy at hb
          rw [hi] at hb
          have:KK.call k n = some x:=by unfold KK.call; rw [Int.toNat_natCast,List.getD_eq_getElem?_getD,hx]; rfl
          rw [this] at hb; cases hb
    have hw:=wrapN ok.n0 hn
    have hcl:=ok.cl
    rw [hw]
    have get:∀ (i:Nat) e,(k.events++[KK.ev0 n env c (k.now + 1)])[i]? = some e→(i < k.events.length∧k.events[i]? = some e)∨(i = k.events.length∧e = KK.ev0 n env c (k.now + 1)):=by
      intro i e he
      rcases Nat.lt_or_ge i k.events.length with h | h
      · rw [List.getElem?_append_left h] at he; exact .inl ⟨h,he⟩
      · rw [List.getElem?_append_right h] at he
        by_cases e0:i - k.events.length = 0
        · rw [e0] at he
          exact .inr ⟨by omega,by simpa using he.symm⟩
        · rw [List.getElem?_eq_none (by simp; omega)] at he; cases he
    have mk:∀ e,Ev1 k e→Ev1 { k with now:=k.now + 1,events:=k.events++[KK.ev0 n env c (k.now + 1)],calls:=k.calls.set n (some ⟨k.events.length,env,c,false,0⟩) } e:=fun e h=>h.later rfl (by show k.now ≤ k.now + 1; omega)
    have cget:∀ (a:Nat) x,(k.calls.set n (some (⟨k.events.length,env,c,false,0⟩:KC)))[a]? = some (some x)→(a = n∧x = ⟨k.events.length,env,c,false,0⟩)∨(a ≠ n∧k.calls[a]? = some (some x)):=by
      intro a x hx
      rw [List.getElem?_set] at hx
      by_cases e:n = a
      · rw [if_pos e,if_pos hlt] at hx
        exact .inl ⟨e.symm,by simpa using hx.symm⟩
      · rw [if_neg e] at hx; exact .inr ⟨fun h=>e h.symm,hx⟩
    refine ⟨fun i e he=>?_,fun i j d e hij hd he=>?_,fun i j d e hd he hp heq=>?_,fun i j d e hij hd he hc=>?_,fun a x hx=>?_,fun i e he h00=>?_⟩
    · rcases get i e he with ⟨_,h⟩ | ⟨_,rfl⟩
      · exact mk e (E.one i e h)
      · exact ⟨by show (0:Int) ≤ n; omega,by show (n:Int) < k.p.s.fCores; omega,by show 0 ≤ env; omega,by show env < k.p.s.fEnvs; omega,by show 1 ≤ k.now + 1; have:=ok.n0; omega,Int.le_refl _,.inl ⟨rfl,rfl⟩⟩
    · rcases get j e he with ⟨hj,h⟩ | ⟨hj,rfl⟩
      · rcases get i d hd with ⟨_,h'⟩ | ⟨hi',_⟩
        · exact E.up i j d e hij h' h
        · omega
      · rcases get i d hd with ⟨_,h'⟩ | ⟨hi',_⟩
        · have:=(E.one i d h').b1
          show d.fBegin < k.now + 1; omega
        · omega
    · rcases get i d hd with ⟨_,h'⟩ | ⟨_,rfl⟩
      · rcases get j e he with ⟨_,h⟩ | ⟨_,rfl⟩
        · exact E.ef i j d e h' h hp heq
        · have:(KK.ev0 n env c (k.now + 1)).fEffect = 0:=rfl
          omega
      · have:(KK.ev0 n env c (k.now + 1)).fEffect = 0:=rfl
        omega
    · rcases get j e he with ⟨hj,h⟩ | ⟨hj,rfl⟩
      · rcases get i d hd with ⟨_,h'⟩ | ⟨hi',_⟩
        · exact E.co i j d e hij h' h hc
        · omega
      · rcases get i d hd with ⟨_,h'⟩ | ⟨hi',_⟩
        · have o:=E.one i d h'
          have hcc:d.fCore = n:=hc
          have hb1:=o.b1
          rcases o.st with s1 | s1
          · exfalso
            obtain ⟨x,hx,_⟩:=E.open_ i d h' s1.1
            rw [hcc,Int.toNat_natCast,hnone] at hx
            cases hx
          · have:=o.b0
            exact ⟨by omega,by show d.fEnd < k.now + 1; omega⟩
        · omega
    · rcases cget a x hx with ⟨rfl,rfl⟩ | ⟨_,h⟩
      · exact ⟨k.events.length,rfl,KK.ev0 a env c (k.now + 1),by simp,rfl,rfl,rfl,rfl⟩
      · obtain ⟨m,h2,e,g1,g2⟩:=E.call a x h
        refine ⟨m,h2,e,?_,g2⟩
        show (k.events++[_])[m]? = _
        rw [List.getElem?_append_left (List.getElem?_eq_some_iff.1 g1).1]; exact g1
    · rcases get i e he with ⟨_,h⟩ | ⟨hi',rfl⟩
      · obtain ⟨x,hx,e1⟩:=E.open_ i e h h00
        refine ⟨x,?_,e1⟩
        show (k.calls.set n _)[e.fCore.toNat]? = _
        rw [List.getElem?_set,if_neg]
        · exact hx
        · rintro e2
          rw [← e2,hnone] at hx; cases hx
      · refine ⟨⟨k.events.length,env,c,false,0⟩,?_,by rw [hi']⟩
        show (k.calls.set n _)[(n:Int).toNat]? = _
        simp [hlt]
theorem kh.ends {k:KK} (E:kh k) {c:Nat} {x:KC} (hx:k.calls[c]? = some (some x)) (hlate:∀ (i:Nat) e,k.events[i]? = some e→e.fBegin < k.now∧e.fEffect < k.now) (a:fQ) (l:mE):kh (KK.ends k c x a l):=by
  obtain ⟨n,hn,e0,g1,g2,g3,g4,g5⟩:=E.call c x hx
  have hlt:=(List.getElem?_eq_some_iff.1 g1).1
  have hev:(KK.ends k c x a l).events = k.events.set n (KK.evend e0 k.now a l):=by
    unfold KK.ends
    rw [hn]
    simp only [Int.toNat_natCast,List.getD_eq_getElem?_getD,g1,Option.getD_some]
  have get:∀ (i:Nat) e,(k.events.set n (KK.evend e0 k.now a l))[i]? = some e→(i ≠ n∧k.events[i]? = some e)∨(i = n∧e = KK.evend e0 k.now a l):=by
    intro i e he
    rw [List.getElem?_set] at he
    by_cases h:n = i
    · rw [if_pos h,if_pos hlt] at he
      exact .inr ⟨h.symm,by simpa using he.symm⟩
    · rw [if_neg h] at he; exact .inl ⟨fun h'=>h h'.symm,he⟩
  have o0:=E.one n e0 g1
  have l0:=hlate n e0 g1
  have cls:(KK.ends k c x a l).calls = k.calls.set c none:=by simp [KK.ends]
  have cget:∀ (b:Nat) y,(k.calls.set c none)[b]? = some (some y)→b ≠ c∧k.calls[b]? = some (some y):=by
    intro b y hy
    rw [List.getElem?_set] at hy
    by_cases e:c = b
    · rw [if_pos e] at hy
      split at hy
      · cases hy
      · cases hy
    · rw [if_neg e] at hy; exact ⟨fun h=>e h.symm,hy⟩
  have b0:(KK.evend e0 k.now a l).fBegin = e0.fBegin:=rfl
  have b1:(KK.evend e0 k.now a l).fCore = e0.fCore:=rfl
  have b2:(KK.evend e0 k.now a l).fEffect = k.now:=rfl
  have b3:(KK.evend e0 k.now a l).fEnd = k.now:=rfl
  have b4:(KK.evend e0 k.now a l).fEnv = e0.fEnv:=rfl
  refine ⟨fun i e he=>?_,fun i j d e hij hd he=>?_,fun i j d e hd he hp heq=>?_,fun i j d e hij hd he hc=>?_,fun b y hy=>?_,fun i e he h00=>?_⟩
  · rw [hev] at he
    rcases get i e he with ⟨_,h⟩ | ⟨_,rfl⟩
    · exact (E.one i e h).later rfl (Int.le_refl _)
    · exact ⟨o0.c0,o0.c1,o0.v0,o0.v1,o0.b0,o0.b1,.inr ⟨l0.1,rfl,Int.le_refl _⟩⟩
  · rw [hev] at hd he
    have hd':∃ d',k.events[i]? = some d'∧d'.fBegin = d.fBegin:=by
      rcases get i d hd with ⟨_,h⟩ | ⟨rfl,rfl⟩
      · exact ⟨d,h,rfl⟩
      · exact ⟨e0,g1,rfl⟩
    have he':∃ e',k.events[j]? = some e'∧e'.fBegin = e.fBegin:=by
      rcases get j e he with ⟨_,h⟩ | ⟨rfl,rfl⟩
      · exact ⟨e,h,rfl⟩
      · exact ⟨e0,g1,rfl⟩
    obtain ⟨d',h1,h2⟩:=hd'
    obtain ⟨e',h3,h4⟩:=he'
    rw [← h2,← h4]; exact E.up i j d' e' hij h1 h3
  · rw [hev] at hd he
    rcases get i d hd with ⟨_,h⟩ | ⟨rfl,rfl⟩
    · rcases get j e he with ⟨_,h'⟩ | ⟨rfl,rfl⟩
      · exact E.ef i j d e h h' hp heq
      · have:=(hlate i d h).2
        rw [heq,b2] at this; omega
    · rcases get j e he with ⟨_,h'⟩ | ⟨rfl,rfl⟩
      · have:=(hlate j e h').2
        rw [← heq,b2] at this; omega
      · rfl
  · rw [hev] at hd he
    rcases get i d hd with ⟨_,h⟩ | ⟨rfl,rfl⟩
    · rcases get j e he with ⟨_,h'⟩ | ⟨rfl,rfl⟩
      · exact E.co i j d e hij h h' hc
      · exact E.co i j d e0 hij h g1 hc
    · rcases get j e he with ⟨_,h'⟩ | ⟨rfl,rfl⟩
      · have:=E.co i j e0 e hij g1 h' hc
        rcases o0.st with s1 | s1
        · omega
        · rw [g5] at s1; have:=o0.b0; omega
      · omega
  · rw [cls] at hy
    obtain ⟨hbc,hy⟩:=cget b y hy
    obtain ⟨m,h2,e,f1,f2,f3⟩:=E.call b y hy
    refine ⟨m,h2,e,?_,f2,f3⟩
    rw [hev,List.getElem?_set,if_neg]
    · exact f1
    · rintro rfl
      rw [g1] at f1
      cases f1
      omega
  · rw [hev] at he
    rcases get i e he with ⟨hne,h⟩ | ⟨_,rfl⟩
    · obtain ⟨y,hy,e1⟩:=E.open_ i e h h00
      refine ⟨y,?_,e1⟩
      rw [cls,List.getElem?_set,if_neg]
      · exact hy
      · intro e2
        rw [← e2,hx] at hy
        cases hy
        rw [hn] at e1
        exact hne (by omega)
    · have:=o0.b0
      rw [b2] at h00; omega
end Go.Proofs.YtemoifebbhoinaaGreatDoor
namespace Go.Proofs.YtemoifebbhoinaaGreatDoor
open Go Mb
structure KZ where
  b:Nat
  pp:Ptr
  ts:Sl
  tp:List Ptr
  pm:Ptr
  pe:Ptr
  cs:Sl
  cp:List Ptr
  es:Sl
abbrev kcl (z:KZ) (k:KK):List Value:=[pv z.pp,.int .i64 k.p.s.fEnvs,sv z.ts,pv z.pm,pv z.pe,sv z.cs,sv z.es,.int .i64 k.now]
abbrev mJ (z:KZ) (k:KK):List As:=[blk z.b cj (kcl z k),bt z.pp k.p,vQ sQ z.ts z.tp,all fx z.tp k.tlbs,jx z.pm k.boxes,fh z.pe k.epochs,vQ fA z.cs z.cp,all iR z.cp k.calls,vE z.es k.events]
structure KZ.Ok (z:KZ) (k:KK):Prop where
  t:z.tp.length = k.tlbs.length
  c:z.cp.length = k.calls.length
def de (x:Ptr) (k:KK):As:=fun h=>∃ z:KZ,(x = some (z.b,0)∧KZ.Ok z k∧KK.Ok k)∧aF (mJ z k) h
theorem so {x:Ptr} {k:KK} {l:List As} {h:Hp} (s0:aF (de x k::l) h):∃ z:KZ,x = some (z.b,0)∧KZ.Ok z k∧KK.Ok k∧aF (mJ z k++l) h:=by
  obtain ⟨z,⟨hx,h1,ok⟩,st⟩:=op_ s0
  exact ⟨z,hx,h1,ok,st⟩
theorem nz {z:KZ} {k:KK} {l:List As} {h:Hp} (h1:KZ.Ok z k) (ok:KK.Ok k) (st:aF (mJ z k++l) h):aF (de (some (z.b,0)) k::l) h :=
  cl_ (m:=fun z:KZ=>mJ z k) z ⟨rfl,h1,ok⟩ st
theorem kk_len {k:KK} (ok:KK.Ok k):k.tlbs.length = k.calls.length∧k.boxes.length = k.calls.length∧k.epochs.2.length = k.calls.length∧1 ≤ k.calls.length∧k.calls.length ≤ 8:=by
  have h1:=ok.tl; have h2:=ok.bl; have h3:=ok.el; have h4:=ok.cl; have h5:=fV.1 ok.p.sz
  omega
theorem is_nat {k:KK} {c:Int} (h:KK.is k c = true):∃ n:Nat,c = n∧n < k.calls.length:=by
  have:=of_decide_eq_true (show decide (0 ≤ c∧c < (k.calls.length:Int)) = true from h)
  exact ⟨c.toNat,by omega,by omega⟩
theorem call_nat {k:KK} {n:Nat} (h:n < k.calls.length):KK.call k n = k.calls[n]:=by simp [KK.call,h]
theorem buf_nat {k:KK} {n:Nat} (h:n < k.tlbs.length):KK.buf k n = k.tlbs[n]:=by simp [KK.buf,h]
theorem sR (x:Ptr) (k:KK) (c:Int):Sp Tryz.prog iz [pv x,.int .i64 c] aA [de x k] (fun r=>pa_ (r = KK.is k c) [de x k]):=by
  intro h s0
  obtain ⟨z,rfl,zo,ok,st⟩:=so s0
  have hcs:=(ce (j:=6) st rfl).1
  refine sim_kern_Kern_is _ _ ?_
  unfold sh_kern_Kern_is
  refine aY (fun d=>?_) (fun d=>?_)
  · have d':0 ≤ c:=by simpa using d
    refine cE (bp z.cs st (i:=0) rfl rfl rfl ?_)
    exact aZ (by rw [hcs,zo.c]; simp [KK.is,d']) s0
  · have d':¬ 0 ≤ c:=by simpa using d
    exact aZ (by simp [KK.is]; intro h; exact absurd h d') s0
theorem oI (x:Ptr) (k:KK) (c:Int):Sp Tryz.prog ga [pv x,.int .i64 c] aA [de x k] (fun r=>pa_ (r = KK.busy k c) [de x k]):=by
  intro h s0
  refine sim_kern_Kern_Busy _ _ ?_
  unfold uu
  refine bR (sR x k c) (i:=0) rfl s0 fun r h1 hr s1=>?_
  subst hr
  refine aY (fun d=>?_) (fun d=>?_)
  · obtain ⟨n,rfl,hn⟩:=is_nat d
    obtain ⟨z,rfl,zo,ok,st⟩:=so s1
    have hcs:=(ce (j:=6) st rfl).1
    have hn':n < z.cp.length:=by rw [zo.c]; exact hn
    refine cE (bp z.cs st (i:=0) rfl rfl rfl ?_)
    refine du st (j:=6) rfl (by omega) (by omega) fun q hq=>?_
    refine dU (j:=6) (i:=n) (k:=0) z.cp[n] gM st rfl hq (by simp) (aD hn') (by simp) ?_
    refine aZ ?_ s1
    unfold KK.busy
    rw [d,call_nat hn]
    cases hc:k.calls[n] with
    | none =>
      have:=call_none (j:=7) st rfl (aD hn') (by rw [aD hn,hc])
      rw [this]; rfl
    | some y =>
      obtain ⟨b,hp,_⟩:=wo (j:=7) st rfl (aD hn') (by rw [aD hn,hc])
      rw [hp]; rfl
  · exact aZ (by unfold KK.busy; rw [d]; rfl) s1
theorem sp_kern_Begin (x:Ptr) (k:KK) (core env:Int) (c:dv) (hn:k.now < 2 ^ 38):Sp Tryz.prog ll [pv x,.int .i64 core,.int .i64 env,.agg c.C.toArray] aA [de x k] (fun r=>pa_ (r = (KK.begin_ k core env c).1) [de x (KK.begin_ k core env c).2]):=by
  intro h s0
  refine sim_kern_Kern_Begin _ _ _ _ ?_
  unfold tc
  have no:(KK.is k core = false∨KK.busy k core = true∨env < 0∨env ≥ k.p.s.fEnvs)→KK.begin_ k core env c = (false,k):=fun hh=>if_pos hh
  refine bR (sR x k core) (i:=0) rfl s0 fun r h1 hr s1=>?_
  subst hr
  refine aY (fun d=>?_) (fun d=>?_)
  · have d':KK.is k core = true:=by simpa using d
    refine bR (oI x k core) (i:=0) rfl s1 fun r h2 hr s2=>?_
    subst hr
    refine aY (fun d2=>?_) (fun d2=>?_)
    · have d2':KK.busy k core = false∧¬ env < 0:=by simpa using d2
      obtain ⟨z,rfl,zo,ok,st⟩:=so s2
      refine cE (bp k.p.s.fEnvs st (i:=0) rfl rfl rfl ?_)
      refine aY (fun d3=>?_) (fun d3=>?_)
      · rw [no (.inr (.inr (.inr (by simpa using d3))))]
        exact aZ rfl s2
      · have d3':¬ env ≥ k.p.s.fEnvs:=by simpa using d3
        have ok2:=kok_begin ok (by omega) core env c
        have e1:KK.begin_ k core env c = (true,{ k with now:=IntKind.i64.wrap (k.now + 1),events:=k.events++[KK.ev0 core env c (IntKind.i64.wrap (k.now + 1))],calls:=k.calls.set core.toNat (some ⟨k.events.length,env,c,false,0⟩) }):=by
          unfold KK.begin_; rw [if_neg]; simp [d',d2'.1]; omega
        rw [e1] at ok2 ⊢
        obtain ⟨n,rfl,hcn⟩:=is_nat d'
        have hn':n < z.cp.length:=by rw [zo.c]; exact hcn
        have hcs:=(ce (j:=6) st rfl).1
        have hel:=ok.evn
        refine bp k.now st (i:=0) rfl rfl rfl ?_
        refine tT (i:=0) st rfl (Nat.le_of_ble_eq_true rfl) fun h3 s3=>?_
        refine bp (IntKind.i64.wrap (k.now + 1)) s3 (i:=0) rfl rfl rfl ?_
        refine bp z.es s3 (i:=0) rfl rfl rfl ?_
        refine kM (τ:=bq) (i:=8) (enc:=aB.C) (val:=fun x=>.agg x.C.toArray) (x:=KK.ev0 n env c (IntKind.i64.wrap (k.now + 1))) qB iF ev_one (fun _=>rfl) (by omega) rfl rfl s3 rfl (by omega) (by omega) fun v h4 s4=>?_
        refine tT (i:=0) s4 rfl (Nat.le_of_ble_eq_true rfl) fun h5 s5=>?_
        refine bp v s5 (i:=0) rfl rfl rfl ?_
        have hvl:=(ce (j:=8) s5 rfl).1
        refine bp z.cs s5 (i:=0) rfl rfl rfl ?_
        have hw:IntKind.i64.wrap ((v.len:Int) - 1) = k.events.length:=by rw [hvl]; rw [bP] <;> simp <;> omega
        rw [hw]
        refine pD s5 fun b68 h6 s6=>?_
        refine du s6 (j:=7) rfl (by omega) (by omega) fun q hq=>?_
        refine st_v (j:=7) (i:=n) (k:=0) (some (b68,0):Ptr) gM s6 rfl hq (by simp) (aD hn') (by simp) rfl fun h7 s7=>?_
        have s8:=bc [8] s7 rfl
        have s10:=all_but (aD hn') (aD hcn) s8
        have s12:=call_mk (y:=⟨k.events.length,env,c,false,0⟩) (bc [1,0] s10 rfl)
        have s14:=all_in2 (A:=iR) hcn zo.c s12
        refine aZ rfl (nz (z:={ z with es:=v,cp:=z.cp.set n (some (b68,0)) }) ⟨zo.t,by simpa using zo.c⟩ ok2 (bc [1,1,1,1,1,1,1,0,0] s14 rfl))
    · rw [no]
      · exact aZ rfl s2
      · simp at d2
        cases hb:KK.busy k core with
        | true=>exact .inr (.inl rfl)
        | false=>exact .inr (.inr (.inl (d2 hb)))
  · rw [no (.inl (by simpa using d))]
    exact aZ rfl s1
theorem cleans_drop (k:KK) (ls:List mE) (n:Nat) (h:n < ls.length) (b:Buf):KK.cleans k (ls.drop n) b = if KK.stale k ls[n] = true then KK.cleans k (ls.drop (n + 1)) (Tlb.flush b ls[n].fEnv ls[n].fPage).2 else KK.cleans k (ls.drop (n + 1)) b:=by
  rw [List.drop_eq_getElem_cons h,KK.cleans]
theorem sp_kern_clean (z:KZ) (k:KK) (c:Nat) (hc:c < k.calls.length) (zo:KZ.Ok z k) (ok:KK.Ok k) :
    Sp Tryz.prog lj [pv (some (z.b,0)),.int .i64 c] R_ (mJ z k) (fun _=>aF (mJ z (KK.clean k c))):=by
  intro h s0
  obtain ⟨l1,l2,l3,l4,l5⟩:=kk_len ok
  have hct:c < k.tlbs.length:=by omega
  have hcp:c < z.tp.length:=by rw [zo.t]; exact hct
  have hts:=(ce (j:=2) s0 rfl).1
  refine sim_kern_Kern_clean _ _ ?_
  unfold ta
  refine cE (bp z.ts s0 (i:=0) rfl rfl rfl ?_)
  refine du s0 (j:=2) rfl (by omega) (by omega) fun q hq=>?_
  refine dU (j:=2) (i:=c) (k:=0) z.tp[c] gM s0 rfl hq (by simp) (aD hcp) (by simp) ?_
  have s1:=jq (aD hcp) (aD hct) (bc [3] s0 rfl)
  refine xH (sp_tlb_Lines z.tp[c] k.tlbs[c]) (i:=0) rfl s1 fun r h2 s2=>?_
  have s3:=tQ (aD hcp) (aD hct) zo.t (bc [1,1] s2 rfl)
  have s4:aF (vL r (Tlb.lines k.tlbs[c])::mJ z k) h2:=bc [1,1,1,1,0] s3 rfl
  have hll:(Tlb.lines k.tlbs[c]).length = 8:=by
    obtain ⟨_,_,h8,_⟩:=nB s1
    unfold Tlb.lines; simpa using h8
  have hrl:=(ce (j:=0) s4 rfl).1
  have hbuf:KK.buf k c = k.tlbs[c]:=buf_nat hct
  have same:k.tlbs.set c k.tlbs[c] = k.tlbs:=iZ (aD hct)
  refine Lp.intro (fun (i:Int) h=>∃ (n:Nat) (b:Buf),i = n∧n ≤ 8∧KK.cleans k ((Tlb.lines k.tlbs[c]).drop n) b = KK.cleans k (Tlb.lines k.tlbs[c]) k.tlbs[c]∧aF (vL r (Tlb.lines k.tlbs[c])::mJ z { k with tlbs:=k.tlbs.set c b }) h) (fun (i:Int) _=>8 - i.toNat) ⟨0,k.tlbs[c],rfl,Nat.zero_le _,rfl,by rw [same]; exact s4⟩ ?_
  rintro i h ⟨n,b,rfl,hn,he,s5⟩
  unfold nO
  refine aY (fun d=>?_) (fun d=>?_)
  · have hlt:n < (Tlb.lines k.tlbs[c]).length:=by rw [hrl] at d; simpa using d
    have hw:IntKind.i64.wrap ((n:Int) + 1) = ((n + 1:Nat):Int):=by rw [bP (by omega) (by omega)]; rfl
    rw [cleans_drop k _ n hlt] at he
    refine du s5 (j:=0) rfl (by omega) (by omega) fun q2 hq2=>?_
    refine dU (j:=0) (i:=n) (k:=0) (Tlb.lines k.tlbs[c])[n] line_len s5 rfl hq2 (by simp) (aD hlt) (by simp) ?_
    have hcb:c < (k.tlbs.set c b).length:=by simpa using hct
    have hgb:(k.tlbs.set c b)[c] = b:=by simp
    have j1:∀ (o:Bool × Pte) (h:Hp),((decide ((Tlb.lines k.tlbs[c])[n].fEnv ≥ 0)) && (((!o.1) || (o.2.fFrame != (Tlb.lines k.tlbs[c])[n].fFrame)) || (!(aV (Tlb.lines k.tlbs[c])[n].fRights o.2.fRights)))) = KK.stale k (Tlb.lines k.tlbs[c])[n]→aF (vL r (Tlb.lines k.tlbs[c])::mJ z { k with tlbs:=k.tlbs.set c b }) h →
        iC c (z.b,0) (fun s' h'=>(∃ (n:Nat) (b:Buf),s' = n∧n ≤ 8∧KK.cleans k ((Tlb.lines k.tlbs[c]).drop n) b = KK.cleans k (Tlb.lines k.tlbs[c]) k.tlbs[c]∧aF (vL r (Tlb.lines k.tlbs[c])::mJ z { k with tlbs:=k.tlbs.set c b }) h')∧8 - s'.toNat < 8 - (n:Int).toNat) n (Tlb.lines k.tlbs[c])[n] o h:=by
      intro o h hs s6
      unfold iC
      rw [hs,hw]
      refine aY (fun d2=>?_) (fun d2=>?_)
      · rw [if_pos d2] at he
        refine bp z.ts s6 (i:=1) rfl rfl rfl ?_
        refine du s6 (j:=3) rfl (by omega) (by omega) fun q3 hq3=>?_
        refine dU (j:=3) (i:=c) (k:=0) z.tp[c] gM s6 rfl hq3 (by simp) (aD hcp) (by simp) ?_
        have s7:=jq (aD hcp) (aD hcb) (bc [4] s6 rfl)
        rw [hgb] at s7
        refine bR (sp_tlb_Flush z.tp[c] b _ _) (i:=0) rfl s7 fun r h8 hr s8=>?_
        have s9:=vo (aD hcp) hcb (by simpa using zo.t) s8
        rw [List.set_set] at s9
        exact ⟨⟨n + 1,_,rfl,by omega,he,bc [1,1,1,1] s9 rfl⟩,by simp; omega⟩
      · rw [if_neg (by rw [d2]; exact Bool.false_ne_true)] at he
        exact ⟨⟨n + 1,b,rfl,by omega,he,s6⟩,by simp; omega⟩
    refine aY (fun d2=>?_) (fun d2=>?_)
    · have d2':0 ≤ (Tlb.lines k.tlbs[c])[n].fEnv:=by simpa using d2
      refine cR [1,1,5,5] (sp_kern_seen z.b z.pp (kcl z k) k.p z.cs z.cp k.calls (Tlb.lines k.tlbs[c])[n].fEnv (Tlb.lines k.tlbs[c])[n].fPage rfl rfl zo.c l5) s5 rfl fun r h6 s6=>?_
      obtain ⟨rfl,s7⟩:=bu.1 s6
      refine j1 _ _ ?_ (bc [4,0,0,2,2,2,2,0,0] s7 rfl)
      unfold KK.stale KK.seen
      rfl
    · have d2':¬ 0 ≤ (Tlb.lines k.tlbs[c])[n].fEnv:=by simpa using d2
      refine j1 _ _ ?_ s5
      unfold KK.stale
      rw [d2,Bool.false_and,Bool.false_and]
  · have:n = 8:=by rw [hrl] at d; simp at d; omega
    subst this
    rw [← hll,List.drop_length] at he
    have e1:KK.clean k c = { k with tlbs:=k.tlbs.set c b }:=by
      unfold KK.clean
      rw [hbuf,← he,Int.toNat_natCast]; rfl
    rw [e1]
    exact bZ (l:=[vL r (Tlb.lines k.tlbs[c])]) s5
theorem sp_kern_ends (z:KZ) (k:KK) (c:Nat) (x:KC) (a:fQ) (l:mE) (hc:c < k.calls.length) (hx:k.calls[c]? = some (some x)) (zo:KZ.Ok z k) (ok:KK.Ok k) :
    Sp Tryz.prog ms [pv (some (z.b,0)),.int .i64 c,.agg a.C.toArray,.agg l.C.toArray] R_ (mJ z k) (fun _=>aF [de (some (z.b,0)) (KK.ends k c x a l)]):=by
  intro h s0
  have hcp:c < z.cp.length:=by rw [zo.c]; exact hc
  have hcs:=(ce (j:=6) s0 rfl).1
  have hes:=(ce (j:=8) s0 rfl).1
  obtain ⟨xb,hp,_⟩:=wo (j:=7) s0 rfl (aD hcp) hx
  have hcpx:z.cp[c]? = some (some (xb,0)):=by rw [aD hcp,hp]
  have hcok:=ok.cs x (List.mem_of_getElem? hx)
  obtain ⟨i,hi⟩:=Int.eq_ofNat_of_zero_le hcok.1
  have hil:i < k.events.length:=by omega
  refine sim_kern_Kern_ends _ _ _ _ ?_
  unfold uq
  refine cE (bp z.es s0 (i:=0) rfl rfl rfl ?_)
  refine bp z.cs s0 (i:=0) rfl rfl rfl ?_
  refine du s0 (j:=6) rfl (by omega) (by omega) fun q hq=>?_
  refine dU (j:=6) (i:=c) (k:=0) z.cp[c] gM s0 rfl hq (by simp) (aD hcp) (by simp) ?_
  rw [hp]
  refine cE (ld_c1 (j:=7) x.fat s0 rfl hcpx hx rfl rfl ?_)
  rw [hi]
  refine du s0 (j:=8) rfl (by omega) (by omega) fun q2 hq2=>?_
  refine bp k.now s0 (i:=0) rfl rfl rfl ?_
  refine bp k.now s0 (i:=0) rfl rfl rfl ?_
  refine st_v (j:=8) (i:=i) (k:=8) { k.events[i] with fEffect:=k.now } iF s0 rfl hq2 rfl (aD hil) (by simp) rfl fun h1 s1=>?_
  have e1:(k.events.set i { k.events[i] with fEffect:=k.now })[i]? = some { k.events[i] with fEffect:=k.now }:=by simp [hil]
  refine st_v (j:=8) (i:=i) (k:=9) { k.events[i] with fEffect:=k.now,fEnd:=k.now } iF s1 rfl hq2 rfl e1 (by simp) rfl fun h2 s2=>?_
  simp only [List.set_set] at s2
  have e2:(k.events.set i { k.events[i] with fEffect:=k.now,fEnd:=k.now })[i]? = some { k.events[i] with fEffect:=k.now,fEnd:=k.now }:=by simp [hil]
  refine st_v (j:=8) (i:=i) (k:=10) { k.events[i] with fEffect:=k.now,fEnd:=k.now,fAnswer:=a } iF s2 rfl hq2 rfl e2 (by simp [ac.C]) rfl fun h3 s3=>?_
  simp only [List.set_set] at s3
  have e3:(k.events.set i { k.events[i] with fEffect:=k.now,fEnd:=k.now,fAnswer:=a })[i]? = some { k.events[i] with fEffect:=k.now,fEnd:=k.now,fAnswer:=a }:=by simp [hil]
  refine st_v (j:=8) (i:=i) (k:=12) (KK.evend k.events[i] k.now a l) iF s3 rfl hq2 rfl e3 (by simp [am.C]) rfl fun h4 s4=>?_
  simp only [List.set_set] at s4
  refine bp z.cs s4 (i:=0) rfl rfl rfl ?_
  refine du s4 (j:=6) rfl (by omega) (by omega) fun q5 hq5=>?_
  refine st_v (j:=6) (i:=c) (k:=0) (none:Ptr) gM s4 rfl hq5 (by simp) (aD hcp) (by simp) rfl fun h5 s5=>?_
  have s7:=all_but hcpx hx (bc [7] s5 rfl)
  have s8:=star_cons (A:=iR none none) (fun _=>rfl) s7
  have s9:=all_in2 (A:=iR) hc zo.c s8
  have hge:k.events.getD i (KK.ev0 0 0 ⟨0,0,0,0,0⟩ 0) = k.events[i]:=by simp [hil]
  have e4:KK.ends k c x a l = { k with events:=k.events.set i (KK.evend k.events[i] k.now a l),calls:=k.calls.set c none }:=by
    unfold KK.ends; rw [hi,Int.toNat_natCast,Int.toNat_natCast,hge]
  have ok2:=kok_ends ok c x a l
  rw [e4] at ok2 ⊢
  refine nz (z:={ z with cp:=z.cp.set c none }) ⟨zo.t,by simpa using zo.c⟩ ok2 (bc [1,1,1,1,1,1,1,0,0] s9 rfl)
end Go.Proofs.YtemoifebbhoinaaGreatDoor
namespace Go.Proofs.YtemoifebbhoinaaGreatDoor
open Go Mb
theorem five {x:KC}:∀ (i:Nat) (v:Value),(ai.C x.fc)[i]? = some v→x.C[2 + i]? = some v:=by
  intro j v hv
  have:j < 5:=(List.getElem?_eq_some_iff.1 hv).1
  match j,this with
  | 0,_=>exact hv
  | 1,_=>exact hv
  | 2,_=>exact hv
  | 3,_=>exact hv
  | 4,_=>exact hv
theorem sp_kern_access (z:KZ) (k:KK) (c xb:Nat) (x:KC) (hc:c < k.calls.length) (hx:k.calls[c]? = some (some x)) (hp:z.cp[c]? = some (some (xb,0))) (zo:KZ.Ok z k) (ok:KK.Ok k) :
    Sp Tryz.prog nJ [pv (some (z.b,0)),.int .i64 c,pv (some (xb,0))] eP (mJ z k) (fun r=>pa_ (r = (KK.access k c x).1) (mJ z (KK.access k c x).2)):=by
  intro h s0
  obtain ⟨l1,l2,l3,l4,l5⟩:=kk_len ok
  have hct:c < k.tlbs.length:=by omega
  have hcp:c < z.tp.length:=by rw [zo.t]; exact hct
  have hbuf:KK.buf k c = k.tlbs[c]:=buf_nat hct
  refine sim_kern_Kern_access _ _ _ ?_
  unfold rO
  refine cE (cE ?_)
  refine ld_c (j:=7) x.fc s0 rfl hp hx five ?_
  refine bp k.p.s.fEnvs s0 (i:=0) rfl rfl rfl ?_
  refine tV (ju x.fc _) s0 fun r h1 hr s1=>?_
  subst hr
  refine aY (fun d=>?_) (fun d=>?_)
  · have e1:KK.access k c x = ((⟨Word.check x.fc k.p.s.fEnvs,0⟩,kV),k):=if_pos (by simpa using d)
    rw [e1]; exact aZ rfl s1
  · have d':¬ Word.check x.fc k.p.s.fEnvs ≠ 0:=by simpa using d
    refine ld_c1 (j:=7) x.fc.e1 s1 rfl hp hx rfl rfl ?_
    refine mC oG s1 fun r37 h2 s2=>?_
    refine ld_c1 (j:=8) x.fenv s2 rfl hp hx rfl rfl ?_
    refine cR [1,1,5,5] (sp_kern_seen z.b z.pp (kcl z k) k.p z.cs z.cp k.calls x.fenv (IntKind.i64.wrap x.fc.e1) rfl rfl zo.c l5) s2 rfl fun r h3 s3=>?_
    obtain ⟨hr,s4⟩:=bu.1 s3
    have hr':r = KK.seen k x.fenv (IntKind.i64.wrap x.fc.e1):=hr
    subst hr'
    have s5:aF (cY r37 (List.replicate 8 dp)::mJ z k) h3:=bc [4,0,0,2,2,2,2,0,0] s4 rfl
    have j1:∀ h,aF (cY r37 (KK.tabFor k x.fenv (IntKind.i64.wrap x.fc.e1))::mJ z k) h→gS c (fun r=>pa_ (r = (KK.access k c x).1) (mJ z (KK.access k c x).2)) (xb,0) (z.b,0) x.fc.e1 r37 () h:=by
      intro h s6
      have hts:=(ce (j:=3) s6 rfl).1
      unfold gS
      refine ld_c1 (j:=8) x.fc.e0 s6 rfl hp hx rfl rfl ?_
      refine bp z.ts s6 (i:=1) rfl rfl rfl ?_
      refine du s6 (j:=3) rfl (by omega) (by omega) fun q hq=>?_
      refine dU (j:=3) (i:=c) (k:=0) z.tp[c] gM s6 rfl hq (by simp) (aD hcp) (by simp) ?_
      refine ld_c1 (j:=8) x.fenv s6 rfl hp hx rfl rfl ?_
      have s7:=jq (aD hcp) (aD hct) (bc [4] s6 rfl)
      refine cR [0,1] (sp_user_Walk z.tp[c] r37 k.tlbs[c] (KK.tabFor k x.fenv (IntKind.i64.wrap x.fc.e1)) x.fenv (IntKind.i64.wrap x.fc.e1) (IntKind.i64.wrap x.fc.e0)) s7 rfl fun r h8 s8=>?_
      obtain ⟨hr,s9⟩:=bu.1 s8
      have hr':r = (KK.accWalk k c x).1:=by rw [hr]; unfold KK.accWalk; rw [hbuf]
      have hw:(User.walk k.tlbs[c] (KK.tabFor k x.fenv (IntKind.i64.wrap x.fc.e1)) x.fenv (IntKind.i64.wrap x.fc.e1) (IntKind.i64.wrap x.fc.e0)).2 = (KK.accWalk k c x).2:=by unfold KK.accWalk; rw [hbuf]
      rw [hw] at s9
      subst hr'
      have s10:=vo (aD hcp) hct zo.t (bc [0,1] s9 rfl)
      refine aY (fun d2=>?_) (fun d2=>?_)
      · have e1:KK.access k c x = ((⟨7,0⟩,kV),{ k with tlbs:=k.tlbs.set c (KK.accWalk k c x).2 }):=by
          unfold KK.access; rw [if_neg d',if_pos (by simpa using d2),Int.toNat_natCast]
        rw [e1]
        exact aZ rfl (bZ (l:=[cY r37 _]) (bc [1,1,1,1,0] s10 rfl))
      · have e1:KK.access k c x = (((PK.touch k.p (KK.accWalk k c x).1.1.fFrame x.fc).1.1,(KK.accWalk k c x).1.1),{ k with tlbs:=k.tlbs.set c (KK.accWalk k c x).2,p:=(PK.touch k.p (KK.accWalk k c x).1.1.fFrame x.fc).2 }):=by
          unfold KK.access; rw [if_neg d',if_neg (by simpa using d2),Int.toNat_natCast]
        rw [e1]
        refine bp z.pp s10 (i:=2) rfl rfl rfl ?_
        refine ld_c (j:=8) x.fc s10 rfl hp hx five ?_
        refine bR (oH z.pp k.p _ x.fc) (i:=3) rfl s10 fun r h11 hr s11=>?_
        subst hr
        have hs:=touch_s k.p (KK.accWalk k c x).1.1.fFrame x.fc
        refine aZ rfl ?_
        have s12:=bZ (l:=[cY r37 _]) (bc [1,1,1,1,0] s11 rfl)
        have ek:kcl z { k with tlbs:=k.tlbs.set c (KK.accWalk k c x).2,p:=(PK.touch k.p (KK.accWalk k c x).1.1.fFrame x.fc).2 } = kcl z k:=by
          show [pv z.pp,Value.int .i64 (PK.touch k.p (KK.accWalk k c x).1.1.fFrame x.fc).2.s.fEnvs,_,_,_,_,_,_] = _
          rw [hs]
        show aF (blk z.b cj (kcl z _)::_) _
        rw [ek]
        exact s12
    refine aY (fun d2=>?_) (fun d2=>?_)
    · refine bR (kB r37 _ (IntKind.i64.wrap x.fc.e1) (KK.seen k x.fenv (IntKind.i64.wrap x.fc.e1)).1) (i:=0) rfl s5 fun r h6 hr s6=>j1 _ ?_
      have e1:KK.tabFor k x.fenv (IntKind.i64.wrap x.fc.e1) = (Table.insert (List.replicate 8 dp) (IntKind.i64.wrap x.fc.e1) (KK.seen k x.fenv (IntKind.i64.wrap x.fc.e1)).1).2:=if_pos d2
      rw [e1]; exact s6
    · have e1:KK.tabFor k x.fenv (IntKind.i64.wrap x.fc.e1) = List.replicate 8 dp:=if_neg (by rw [d2]; exact Bool.false_ne_true)
      exact j1 _ (by rw [e1]; exact s5)
theorem access_calls (k:KK) (c:Int) (x:KC):(KK.access k c x).2.calls = k.calls:=by
  unfold KK.access
  repeat' split
  all_goals rfl
theorem access_tlen (k:KK) (c:Int) (x:KC):(KK.access k c x).2.tlbs.length = k.tlbs.length:=by
  unfold KK.access
  repeat' split
  all_goals simp
theorem kz_tlbs {z:KZ} {k k':KK} (zo:KZ.Ok z k) (h1:k'.tlbs.length = k.tlbs.length) (h2:k'.calls.length = k.calls.length):KZ.Ok z k':=⟨by rw [h1]; exact zo.t,by rw [h2]; exact zo.c⟩
theorem sp_kern_Step (x:Ptr) (k:KK) (c:Int) (hn:k.now < 2 ^ 37):Sp Tryz.prog mt [pv x,.int .i64 c] aA [de x k] (fun r=>pa_ (r = (KK.step k c).1) [de x (KK.step k c).2]):=by
  intro h s0
  refine sim_kern_Kern_Step _ _ ?_
  unfold ur
  refine bR (oI x k c) (i:=0) rfl s0 fun r h1 hr s1=>?_
  subst hr
  refine aY (fun d=>?_) (fun d=>?_)
  · have e1:KK.step k c = (false,k):=if_pos (by simpa using d)
    rw [e1]; exact aZ rfl s1
  · have d':KK.busy k c = true:=by simpa using d
    obtain ⟨hi,y,hy⟩:=busy_is d'
    have e1:KK.step k c = (true,KK.work (KK.tick k) c y):=by unfold KK.step; rw [if_neg (by simp [d']),hy]
    rw [e1]
    obtain ⟨z,rfl,zo,ok,st⟩:=so s1
    have okt:=kok_tick ok (by omega)
    obtain ⟨n,rfl,hnc⟩:=is_nat hi
    obtain ⟨l1,l2,l3,l4,l5⟩:=kk_len ok
    have hnp:n < z.cp.length:=by rw [zo.c]; exact hnc
    have hcs:=(ce (j:=6) st rfl).1
    have hxn:k.calls[n]? = some (some y):=by rw [aD hnc,← call_nat hnc,hy]
    have hep:=ok.epn
    have hwn:=wrapN ok.n0 (show k.now < 2 ^ 40 by omega)
    refine cE (bp k.now st (i:=0) rfl rfl rfl ?_)
    refine tT (i:=0) st rfl (Nat.le_of_ble_eq_true rfl) fun h2 s2=>?_
    have s3:aF (mJ z (KK.tick k)) h2:=s2
    have zot:KZ.Ok z (KK.tick k):=⟨zo.t,zo.c⟩
    have hxt:(KK.tick k).calls[n]? = some (some y):=hxn
    have hyt:KK.call (KK.tick k) n = some y:=hy
    have hit:KK.is (KK.tick k) n = true:=hi
    have hept:((KK.tick k).epochs.1.length:Int) + 1 ≤ (KK.tick k).now:=by show _ ≤ IntKind.i64.wrap (k.now + 1); rw [hwn]; simp only [KK.tick]; omega
    have hnt:(KK.tick k).now ≤ 2 ^ 37:=by show IntKind.i64.wrap (k.now + 1) ≤ _; rw [hwn]; omega
    have okw:=kok_work okt hept hyt hit
    have hnct:n < (KK.tick k).calls.length:=hnc
    generalize KK.tick k = kt at *
    obtain ⟨xb,hp,_⟩:=wo (j:=7) s3 rfl (aD hnp) hxt
    have hpx:z.cp[n]? = some (some (xb,0)):=by rw [aD hnp,hp]
    refine bp z.cs s3 (i:=0) rfl rfl rfl ?_
    refine du s3 (j:=6) rfl (by omega) (by omega) fun q hq=>?_
    refine dU (j:=6) (i:=n) (k:=0) z.cp[n] gM s3 rfl hq (by simp) (aD hnp) (by simp) ?_
    rw [hp]
    refine cE (ld_c (j:=7) y.fc s3 rfl hpx hxt five ?_)
    refine aY (fun d2=>?_) (fun d2=>?_)
    · have ew:KK.work kt n y = KK.ends (KK.access kt n y).2 n y (KK.access kt n y).1.1 (KK.access kt n y).1.2:=if_pos d2
      rw [ew]
      have oka:=kok_access okt n y
      have hca:(KK.access kt n y).2.calls = kt.calls:=access_calls _ _ _
      have hta:(KK.access kt n y).2.tlbs.length = kt.tlbs.length:=access_tlen _ _ _
      refine cR [0,0,0,0,0,0,0,0,0] (sp_kern_access z kt n xb y hnct hxt hpx zot okt) s3 rfl fun r h4 s4=>?_
      obtain ⟨hr,s5⟩:=bu.1 s4
      subst hr
      refine cR [0,0,0,0,0,0,0,0,0] (sp_kern_ends z (KK.access kt n y).2 n y (KK.access kt n y).1.1 (KK.access kt n y).1.2 (by rw [hca]; exact hnct) (by rw [hca]; exact hxt) (kz_tlbs zot hta (by rw [hca])) oka) s5 rfl fun r h6 s6=>?_
      exact aZ rfl (dE s6)
    · have d2':¬ cO (aE y.fc).1 = true:=by rw [d2]; exact Bool.false_ne_true
      have j2:∀ b:Bool,(y.ftold = false∧KK.takes kt.p y = true) = False→b = (y.ftold && !(Epochs.done kt.epochs y.fepoch))→∀ h,aF (mJ z kt) h→jn n (fun r=>pa_ (r = true) [de (some (z.b,0)) (KK.work kt n y)]) (z.b,0) (xb,0) b h:=by
        intro b hno hb h s4
        have ew:KK.work kt n y = (if y.ftold = true∧Epochs.done kt.epochs y.fepoch = false then kt else if (PK.do_ kt.p y.fenv y.fc).1.2 = true then KK.ends { kt with p:=(PK.do_ kt.p y.fenv y.fc).2 } n y (PK.do_ kt.p y.fenv y.fc).1.1 kV else { kt with p:=(PK.do_ kt.p y.fenv y.fc).2 }):=by
          unfold KK.work
          rw [if_neg d2',if_neg (by rw [hno]; exact not_false)]
        rw [ew] at okw ⊢
        unfold jn
        refine aY (fun d4=>?_) (fun d4=>?_)
        · have d4':y.ftold = true∧Epochs.done kt.epochs y.fepoch = false:=by rw [hb] at d4; simpa using d4
          rw [if_pos d4']
          exact aZ rfl (nz zot okt s4)
        · have d4':¬ (y.ftold = true∧Epochs.done kt.epochs y.fepoch = false):=by rw [hb] at d4; simpa using d4
          rw [if_neg d4'] at okw ⊢
          refine bp z.pp s4 (i:=0) rfl rfl rfl ?_
          refine ld_c1 (j:=7) y.fenv s4 rfl hpx hxt rfl rfl ?_
          refine ld_c (j:=7) y.fc s4 rfl hpx hxt five ?_
          refine bR (jY z.pp kt.p y.fenv y.fc) (i:=1) rfl s4 fun r h5 hr s5=>?_
          subst hr
          have hs:=do_s kt.p y.fenv y.fc
          have s6:aF (mJ z { kt with p:=(PK.do_ kt.p y.fenv y.fc).2 }) h5:=by
            show aF (blk z.b cj [pv z.pp,Value.int .i64 (PK.do_ kt.p y.fenv y.fc).2.s.fEnvs,_,_,_,_,_,_]::_) _
            rw [hs]; exact s5
          have okp:=kok_p okt (ok_do okt.p y.fenv y.fc) hs
          refine aY (fun d5=>?_) (fun d5=>?_)
          · rw [if_pos d5]
            refine cR [0,0,0,0,0,0,0,0,0] (sp_kern_ends z { kt with p:=(PK.do_ kt.p y.fenv y.fc).2 } n y (PK.do_ kt.p y.fenv y.fc).1.1 kV hnct hxt ⟨zot.t,zot.c⟩ okp) s6 rfl fun r h7 s7=>?_
            exact aZ rfl (dE s7)
          · rw [if_neg (by rw [d5]; exact Bool.false_ne_true)]
            exact aZ rfl (nz (k:={ kt with p:=_ }) ⟨zot.t,zot.c⟩ okp s6)
      refine ld_c1 (j:=7) y.ftold s3 rfl hpx hxt rfl rfl ?_
      refine aY (fun d3=>?_) (fun d3=>?_)
      · have d3':y.ftold = false:=by simpa using d3
        obtain ⟨xb',hp',s4⟩:=call_out hpx hxt (bc [7] s3 rfl)
        cases hp'
        refine cR [2,0,1] (sp_kern_takes z.b xb z.pp (kcl z kt) kt.p y rfl rfl) s4 rfl fun r h5 s5=>?_
        obtain ⟨hr,s6⟩:=bu.1 s5
        subst hr
        unfold jo
        refine aY (fun d4=>?_) (fun d4=>?_)
        · have ew:KK.work kt n y = KK.send (KK.clean (KK.tell kt n y) n) n y:=by unfold KK.work; rw [if_neg d2',if_pos ⟨d3',d4⟩]
          rw [ew] at okw ⊢
          refine tT (i:=1) s6 rfl (Nat.le_of_ble_eq_true rfl) fun h7 s7=>?_
          have s8:=call_in (y:={ y with ftold:=true }) hpx hnct zot.c (bc [1,2] s7 rfl)
          have s9:aF (mJ z (KK.tell kt n y)) h7:=bc [1,1,1,1,1,1,1,0,0] s8 rfl
          have okl:KK.Ok (KK.tell kt n y):=kok_call okt n hyt (y:={ y with ftold:=true }) rfl rfl
          have hll:n < (KK.tell kt n y).calls.length:=by simpa [KK.tell] using hnct
          have zol:KZ.Ok z (KK.tell kt n y):=⟨zot.t,by simpa [KK.tell] using zot.c⟩
          refine cR [0,0,0,0,0,0,0,0,0] (sp_kern_clean z (KK.tell kt n y) n hll zol okl) s9 rfl fun r h10 s10=>?_
          have s11:=dE s10
          have hcc:(KK.clean (KK.tell kt n y) n).calls[n]? = some (some { y with ftold:=true }):=by simp [KK.clean,KK.tell,hnct]
          have okc:=kok_clean okl n
          have zoc:KZ.Ok z (KK.clean (KK.tell kt n y) n):=⟨by simpa [KK.clean] using zol.t,zol.c⟩
          have hepc:((KK.clean (KK.tell kt n y) n).epochs.1.length:Int) + 1 ≤ kt.now:=hept
          have hbx:=okc.bx
          have htl:(KK.clean (KK.tell kt n y) n).calls = kt.calls.set n (some { y with ftold:=true }):=rfl
          have hnow:(KK.clean (KK.tell kt n y) n).now = kt.now:=rfl
          generalize KK.clean (KK.tell kt n y) n = kc at *
          have hncc:n < kc.calls.length:=by rw [htl]; simpa using hnct
          refine bp z.pe s11 (i:=0) rfl rfl rfl ?_
          refine bR (sp_epoch_Begin z.pe kc.epochs n (by omega)) (i:=5) rfl s11 fun r h12 hr s12=>?_
          subst hr
          obtain ⟨xb',hp',s13⟩:=call_out hpx hcc (bc [7] s12 rfl)
          cases hp'
          refine tT (i:=0) s13 rfl (Nat.le_of_ble_eq_true rfl) fun h14 s14=>?_
          have s15:=call_in (y:={ y with ftold:=true,fepoch:=(Epochs.begin_ kc.epochs n).1.1 }) hpx hncc zoc.c s14
          refine bp z.pm s15 (i:=1) rfl rfl rfl ?_
          have hxe:(kc.calls.set n (some { y with ftold:=true,fepoch:=(Epochs.begin_ kc.epochs n).1.1 }))[n]? = some (some { y with ftold:=true,fepoch:=(Epochs.begin_ kc.epochs n).1.1 }):=by simp [hncc]
          refine ld_c1 (j:=0) (Epochs.begin_ kc.epochs n).1.1 s15 rfl hpx hxe rfl rfl ?_
          have he:Epochs.is kc.epochs n = true:=by
            unfold Epochs.is
            have:=okc.el
            have:=okc.cl
            exact decide_eq_true (by omega)
          have eb:(Epochs.begin_ kc.epochs n).1.1 = (kc.epochs.1.length:Int) + 1:=by unfold Epochs.begin_; rw [if_pos he]
          refine bR (sp_mail_All z.pm kc.boxes n (Epochs.begin_ kc.epochs n).1.1 ?_) (i:=5) rfl s15 fun r h16 hr s16=>?_
          · intro l hl
            rw [eb]
            exact box_fit (hbx l hl) (by omega)
          · refine aZ rfl (nz (k:=KK.send kc n y) ⟨zoc.t,by simpa [KK.send] using zoc.c⟩ okw (bc [1,1,1,1,1,1,1,0,0] s16 rfl))
        · have hno:(y.ftold = false∧KK.takes kt.p y = true) = False:=by simp [d4]
          have s8:=call_in (y:=y) hpx hnct zot.c (bc [1,2] s6 rfl)
          rw [iZ hxt] at s8
          have s9:aF (mJ z kt) h5:=bc [1,1,1,1,1,1,1,0,0] s8 rfl
          refine ld_c1 (j:=7) y.ftold s9 rfl hpx hxt rfl rfl ?_
          refine dI d3' ?_
          exact j2 false hno (by rw [d3']; rfl) _ s9
      · have d3':y.ftold = true:=by simpa using d3
        unfold jo
        refine dI rfl ?_
        refine ld_c1 (j:=7) y.ftold s3 rfl hpx hxt rfl rfl ?_
        refine dZ d3' ?_
        refine bp z.pe s3 (i:=0) rfl rfl rfl ?_
        refine ld_c1 (j:=7) y.fepoch s3 rfl hpx hxt rfl rfl ?_
        refine bR (sp_epoch_Done z.pe kt.epochs y.fepoch) (i:=5) rfl s3 fun r h4 hr s4=>?_
        subst hr
        exact j2 _ (by simp [d3']) (by rw [d3']; rfl) _ s4
theorem sp_kern_Post (x:Ptr) (k:KK) (c:Int) (hn:k.now < 2 ^ 37):Sp Tryz.prog mu [pv x,.int .i64 c] aA [de x k] (fun r=>pa_ (r = (KK.post k c).1) [de x (KK.post k c).2]):=by
  intro h s0
  refine sim_kern_Kern_Post _ _ ?_
  unfold us
  refine bR (sR x k c) (i:=0) rfl s0 fun r h1 hr s1=>?_
  subst hr
  refine aY (fun d=>?_) (fun d=>?_)
  · have e1:KK.post k c = (false,k):=if_pos (by simpa using d)
    rw [e1]; exact aZ rfl s1
  · have d':KK.is k c = true:=by simpa using d
    obtain ⟨z,rfl,zo,ok,st⟩:=so s1
    have okp:=kok_post ok (by omega) c
    obtain ⟨n,rfl,hnc⟩:=is_nat d'
    refine cE (bp z.pm st (i:=0) rfl rfl rfl ?_)
    refine bR (sp_mail_Take z.pm k.boxes n) (i:=4) rfl st fun r h2 hr s2=>?_
    subst hr
    refine aY (fun d2=>?_) (fun d2=>?_)
    · have d2':(Mail.take k.boxes n).1.2 = false:=by simpa using d2
      have e1:KK.post k n = (false,k):=by unfold KK.post; rw [if_neg (by simp [d']),if_pos d2']
      have e2:(Mail.take k.boxes n).2 = k.boxes:=by
        unfold Mail.take at d2' ⊢; split
        · rfl
        · rename_i hh; rw [if_neg hh] at d2'; cases d2'
      rw [e1]
      rw [e2] at s2
      exact aZ rfl (nz zo ok s2)
    · have e1:KK.post k n = (true,{ KK.clean { KK.tick k with boxes:=(Mail.take k.boxes n).2 } n with epochs:=(Epochs.ack k.epochs n (Mail.take k.boxes n).1.1).2 }):=by
        unfold KK.post; rw [if_neg (by simp [d']),if_neg (by simpa using d2)]
      rw [e1] at okp ⊢
      refine bp k.now s2 (i:=0) rfl rfl rfl ?_
      refine tT (i:=0) s2 rfl (Nat.le_of_ble_eq_true rfl) fun h3 s3=>?_
      have s4:aF (mJ z { KK.tick k with boxes:=(Mail.take k.boxes n).2 }) h3:=s3
      have okt:=kok_tick ok (by omega)
      have hbl:(Mail.take k.boxes n).2.length = k.boxes.length:=by unfold Mail.take; split <;> simp
      have hb:∀ l ∈ (Mail.take k.boxes n).2,mL k.epochs.1.length l:=by
        unfold Mail.take; split
        · exact ok.bx
        · exact boxes_set ok.bx _ (box_drop (box_of ok.bx n))
      have ok2:KK.Ok { KK.tick k with boxes:=(Mail.take k.boxes n).2 }:=⟨okt.p,okt.tl,by simp only [hbl]; exact ok.bl,okt.el,okt.cl,okt.cs,okt.n0,okt.evn,okt.epn,hb⟩
      refine cR [0,0,0,0,0,0,0,0,0] (sp_kern_clean z { KK.tick k with boxes:=(Mail.take k.boxes n).2 } n hnc ⟨zo.t,zo.c⟩ ok2) s4 rfl fun r h5 s5=>?_
      have s6:=dE s5
      refine bp z.pe s6 (i:=0) rfl rfl rfl ?_
      refine bR (sp_epoch_Ack z.pe k.epochs n _) (i:=5) rfl s6 fun r h7 hr s7=>?_
      refine aZ rfl (nz (z:=z) ⟨?_,zo.c⟩ okp s7)
      simpa [KK.clean,KK.tick] using zo.t
theorem sp_kern_Evict (x:Ptr) (k:KK) (c s w:Int) (hn:k.now < 2 ^ 37):Sp Tryz.prog pd [pv x,.int .i64 c,.int .i64 s,.int .i64 w] aA [de x k] (fun r=>pa_ (r = (KK.evict k c s w).1) [de x (KK.evict k c s w).2]):=by
  intro h s0
  refine sim_kern_Kern_Evict _ _ _ _ ?_
  unfold tb
  refine bR (sR x k c) (i:=0) rfl s0 fun r h1 hr s1=>?_
  subst hr
  refine aY (fun d=>?_) (fun d=>?_)
  · have d':KK.is k c = true:=by simpa using d
    obtain ⟨z,rfl,zo,ok,st⟩:=so s1
    have okp:=kok_evict ok (by omega) c s w
    obtain ⟨n,rfl,hnc⟩:=is_nat d'
    obtain ⟨l1,l2,l3,l4,l5⟩:=kk_len ok
    have hct:n < k.tlbs.length:=by omega
    have hcp:n < z.tp.length:=by rw [zo.t]; exact hct
    have hts:=(ce (j:=2) st rfl).1
    have hbuf:KK.buf k n = k.tlbs[n]:=buf_nat hct
    refine cE (bp z.ts st (i:=0) rfl rfl rfl ?_)
    refine du st (j:=2) rfl (by omega) (by omega) fun q hq=>?_
    refine dU (j:=2) (i:=n) (k:=0) z.tp[n] gM st rfl hq (by simp) (aD hcp) (by simp) ?_
    have s2:=jq (aD hcp) (aD hct) (bc [3] st rfl)
    refine bR (sp_tlb_Evict z.tp[n] k.tlbs[n] s w) (i:=0) rfl s2 fun r h3 hr s3=>?_
    subst hr
    refine aY (fun d2=>?_) (fun d2=>?_)
    · have d2':(Tlb.evict k.tlbs[n] s w).1 = false:=by simpa using d2
      have e1:KK.evict k n s w = (false,k):=by unfold KK.evict; rw [if_neg (by simp [d']),hbuf,if_pos d2']
      have e2:(Tlb.evict k.tlbs[n] s w).2 = k.tlbs[n]:=by
        unfold Tlb.evict at d2' ⊢
        split
        · rfl
        · split
          · rfl
          · rename_i h4 h5; rw [if_neg h4,if_neg h5] at d2'; cases d2'
      rw [e1]
      rw [e2] at s3
      exact aZ rfl (nz zo ok (bc [1,1,1] (tQ (aD hcp) (aD hct) zo.t s3) rfl))
    · have e1:KK.evict k n s w = (true,{ KK.tick k with tlbs:=k.tlbs.set n (Tlb.evict k.tlbs[n] s w).2 }):=by unfold KK.evict; rw [if_neg (by simp [d']),hbuf,if_neg (by simpa using d2)]; rfl
      rw [e1] at okp ⊢
      have s4:=vo (aD hcp) hct zo.t s3
      refine bp k.now s4 (i:=1) rfl rfl rfl ?_
      refine tT (i:=1) s4 rfl (Nat.le_of_ble_eq_true rfl) fun h5 s5=>?_
      exact aZ rfl (nz (z:=z) (k:={ KK.tick k with tlbs:=_ }) ⟨by simpa using zo.t,zo.c⟩ okp (bc [1,1,1] s5 rfl))
  · have e1:KK.evict k c s w = (false,k):=if_pos (by simpa using d)
    rw [e1]; exact aZ rfl s1
theorem sp_kern_Mail (x:Ptr) (k:KK) (c:Int):Sp Tryz.prog qm [pv x,.int .i64 c] eJ [de x k] (fun r=>pa_ (r = KK.mail k c) [de x k]):=by
  intro h s0
  refine sim_kern_Kern_Mail _ _ ?_
  unfold ut
  refine bR (sR x k c) (i:=0) rfl s0 fun r h1 hr s1=>?_
  subst hr
  refine aY (fun d=>?_) (fun d=>?_)
  · exact aZ (by unfold KK.mail; rw [if_neg (by simpa using d)]) s1
  · obtain ⟨z,rfl,zo,ok,st⟩:=so s1
    refine cE (bp z.pm st (i:=0) rfl rfl rfl ?_)
    refine bR (sp_mail_Waits z.pm k.boxes c) (i:=4) rfl st fun r h2 hr s2=>?_
    exact aZ (by unfold KK.mail; rw [if_pos (by simpa using d),hr]) (nz zo ok s2)
theorem sp_slices_CloneE (s:Sl) (xs:List bq) (hb:xs.length < 2 ^ 38):Sp Tryz.prog eW [sv s] eI [vE s xs] (fun r=>aF [vE r xs,vE s xs]):=by
  intro h s0
  refine mM _ ?_
  unfold ia
  refine aY (fun k=>?_) (fun k=>?_)
  · have hn:xs = []:=by
      obtain ⟨_,⟨e1,e2,e3⟩,_⟩:=dX (i:=0) rfl s0
      rcases e3 with e3 | ⟨b,pre,rest,U,fr,h4,_⟩
      · exact List.eq_nil_of_length_eq_zero (by omega)
      · rw [h4] at k; cases k
    subst hn
    exact fR s0
  · refine fH (τ:=bq) [] (val:=fun x=>.agg x.C.toArray) (enc:=aB.C) qB iF (fun _=>rfl) s0 rfl rfl (by simp) fun y h' s1=>?_
    refine tP (τ:=bq) (i:=0) (j:=1) (enc:=aB.C) (xs:=[]) (ys:=xs) qB qB.sl iF ev_one s1 rfl rfl (by omega) (by simp; omega) (by simp; omega) fun v h2 s2=>?_
    exact s2
theorem sS (x:Ptr) (k:KK) (hb:k.now < 2 ^ 38):Sp Tryz.prog fZ [pv x] eI [de x k] (fun r=>aF [vE r k.events,de x k]):=by
  intro h s0
  obtain ⟨z,rfl,zo,ok,st⟩:=so s0
  have:=ok.evn
  refine sim_kern_Kern_Events _ ?_
  unfold rP
  refine dI rfl (cE (bp z.es st (i:=0) rfl rfl rfl ?_))
  refine xH (sp_slices_CloneE z.es k.events (by omega)) (i:=8) rfl st fun r h1 s1=>?_
  exact star_tail s1 fun h2 s2=>nz zo ok s2
end Go.Proofs.YtemoifebbhoinaaGreatDoor
namespace Go.Proofs.YtemoifebbhoinaaGreatDoor
open Go Mb
set_option linter.unusedVariables false
def ff (a0:Ptr) (Rec7:(Bool × Int)→Hp→Prop) (s6:Bool × Int) (s11:Unit):Hp→Prop:=cl Tryz.prog ga [(pv a0),(.int .i64 s6.2)] aA fun r37=>cl Tryz.prog ga [(pv a0),(.int .i64 s6.2)] aA fun r43=>br r43 ( cl Tryz.prog mt [(pv a0),(.int .i64 s6.2)] aA fun r46=>Rec7 ((r37 || s6.1),(IntKind.i64.wrap (s6.2 + 1)))) ( Rec7 ((r37 || s6.1),(IntKind.i64.wrap (s6.2 + 1))))
def gD (a0:Ptr) (Rec7:(Bool × Int)→Hp→Prop) (s6:Bool × Int) (Rec20:Int→Hp→Prop) (s19:Int):Hp→Prop:=br (decide (s19 < 5000)) ( cl Tryz.prog qm [(pv a0),(.int .i64 s6.2)] eJ fun r27=>br (decide (r27 > 0)) ( cl Tryz.prog mu [(pv a0),(.int .i64 s6.2)] aA fun r34=>Rec20 (IntKind.i64.wrap (s19 + 1))) ( ff a0 Rec7 s6 ())) ( ff a0 Rec7 s6 ())
def gE (a0:Ptr) (a1:Int) (K:Bool→Hp→Prop) (Rec2:Int→Hp→Prop) (s1:Int) (Rec7:(Bool × Int)→Hp→Prop) (s6:Bool × Int):Hp→Prop:=br (decide (s6.2 < a1)) ( Lp (gD a0 Rec7 s6) 0) ( br (!s6.1) ( K true) ( Rec2 (IntKind.i64.wrap (s1 + 1))))
def gC (a0:Ptr) (a1:Int) (K:Bool→Hp→Prop) (Rec34:Int→Hp→Prop) (s33:Int):Hp→Prop:=br (decide (s33 < a1)) ( cl Tryz.prog ga [(pv a0),(.int .i64 s33)] aA fun r56=>br r56 ( K false) ( Rec34 (IntKind.i64.wrap (s33 + 1)))) ( K true)
def jN (a0:Ptr) (a1:Int) (a2:Int) (K:Bool→Hp→Prop) (Rec2:Int→Hp→Prop) (s1:Int):Hp→Prop:=br (decide (s1 < a2)) ( Lp (gE a0 a1 K Rec2 s1) (false,0)) ( Lp (gC a0 a1 K) 0)
def oa (a0:Ptr) (a1:Int) (a2:Int) (K:Bool→Hp→Prop):Hp→Prop:=Lp (jN a0 a1 a2 K) 0
theorem uU (a0:Ptr) (a1:Int) (a2:Int) {K:Bool→Hp→Prop} {h:Hp} (H:oa a0 a1 a2 K h):Ct Tryz.prog hG #[(pv a0),(.int .i64 a1),(.int .i64 a2)] h fun v h'=>∃ r,v = aA r∧K r h':=aw [(pv a0),(.int .i64 a1),(.int .i64 a2)] Tryz.func29 c c c fun _=>M<|O c<|ak<|M<|O c<|ax<|bG (step:=jN a0 a1 a2 K) (fun s1=>[(0,(pv a0)),(1,(.int .i64 a1)),(2,(.int .i64 a2)),(7,(.int .i64 s1))]) (fun s1=>[]) H (.cons c<|.cons c<|.cons c<|.cons c<|.nil _) .slnil fun Rec2 s1 _ H3=>ak<|M<|J c<|J c<|p (cq c c)<|ad<|av c H3 (fun k4 H5=>an<|ak<|ax<|M<|O c<|ak<|M<|O c<|ax<|bG (step:=gE a0 a1 K Rec2 s1) (fun s6=>[(0,(pv a0)),(1,(.int .i64 a1)),(2,(.int .i64 a2)),(7,(.int .i64 s1)),(8,(.bool s6.1)),(9,(.int .i64 s6.2))]) (fun s6=>[]) H5 (.cons c<|.cons c<|.cons c<|.cons c<|.cons c<|.cons c<|.nil _) .slnil fun Rec7 s6 _ H8=>ak<|M<|J c<|J c<|p (cq c c)<|ad<|av c H8 (fun k9 H10=>an<|ak<|ax<|eG (ff a0 Rec7 s6) (fun s11=>[(0,(pv a0)),(1,(.int .i64 a1)),(2,(.int .i64 a2)),(7,(.int .i64 s1)),(8,(.bool s6.1)),(9,(.int .i64 s6.2))]) (fun s11=>[]) (M<|O c<|ax<|bG (step:=gD a0 Rec7 s6) (fun s19=>[(0,(pv a0)),(1,(.int .i64 a1)),(2,(.int .i64 a2)),(7,(.int .i64 s1)),(8,(.bool s6.1)),(9,(.int .i64 s6.2)),(10,(.int .i64 s19))]) (fun s19=>[]) H10 (.cons c<|.cons c<|.cons c<|.cons c<|.cons c<|.cons c<|.cons c<|.nil _) .slnil fun Rec20 s19 _ H21=>ak<|M<|J c<|p (cq c c)<|J c<|V c c (ay _) (fun g22=>wv<|ag c)<|V c c (ay _) (fun g23=>wv<|ag c)<|bT H21 (fun k25 H26=>G (Y k25)<|gm H26 en_73 (aT (az c k25)<|aT (az c k25) bW) c fun r27 _ H27=>G (Y k25)<|z_p (kP c c)<|p (aI c k25 c)<|ad<|av c H27 (fun k28 H29=>an<|ak<|ax<|ap<|J c<|J c<|aa<|F H29 en_46 fun r34 _ H30=>ad<|ap<|J c<|p (bn c c)<|O c<|cM (IntKind.i64.wrap (s19 + 1)) H30 (.cons c<|.cons c<|.cons c<|.cons c<|.cons c<|.cons c<|.cons c<|.nil _) .slnil) fun k28 H29=>bj<|cz () H29 (.cons c<|.cons c<|.cons c<|.cons c<|.cons c<|.cons c<|.nil _) .slnil) fun k25 H26=>W (aJ k25)<|W (aJ k25)<|p (ao c k25 c)<|ad<|rW c c<|bj<|cz () H26 (.cons c<|.cons c<|.cons c<|.cons c<|.cons c<|.cons c<|.nil _) .slnil) fun s11 _ H12=>M<|J c<|J c<|aa<|F H12 en_31 fun r37 _ H13=>J c<|V c c (aG _) (fun g14=>wv<|ag c)<|p (cZ c c)<|O c<|M<|J c<|J c<|aa<|F H13 en_31 fun r43 _ H15=>ad<|av c H15 (fun k16 H17=>ap<|J c<|J c<|aa<|F H17 en_28 fun r46 _ H18=>ad<|ap<|J c<|p (bn c c)<|O c<|cM ((r37 || s6.1),(IntKind.i64.wrap (s6.2 + 1))) H18 (.cons c<|.cons c<|.cons c<|.cons c<|.cons c<|.cons c<|.nil _) .slnil) fun k16 H17=>an<|ap<|J c<|p (bn c c)<|O c<|cM ((r37 || s6.1),(IntKind.i64.wrap (s6.2 + 1))) H17 (.cons c<|.cons c<|.cons c<|.cons c<|.cons c<|.cons c<|.nil _) .slnil) fun k9 H10=>bj<|M<|J c<|p (ct c)<|ad<|av c H10 (fun k31 H32=>M<|O c<|ah<|D ⟨true,c,H32⟩) fun k31 H32=>an<|ap<|J c<|p (bn c c)<|O c<|cM (IntKind.i64.wrap (s1 + 1)) H32 (.cons c<|.cons c<|.cons c<|.cons c<|.nil _) .slnil) fun k4 H5=>bj<|ak<|M<|O c<|ax<|bG (step:=gC a0 a1 K) (fun s33=>[(0,(pv a0)),(1,(.int .i64 a1)),(11,(.int .i64 s33))]) (fun s33=>[]) H5 (.cons c<|.cons c<|.cons c<|.nil _) .slnil fun Rec34 s33 _ H35=>ak<|M<|J c<|J c<|p (cq c c)<|ad<|av c H35 (fun k36 H37=>an<|ak<|ax<|M<|J c<|J c<|aa<|F H37 en_31 fun r56 _ H38=>ad<|av c H38 (fun k39 H40=>M<|O c<|ah<|D ⟨false,c,H40⟩) fun k39 H40=>an<|ap<|J c<|p (bn c c)<|O c<|cM (IntKind.i64.wrap (s33 + 1)) H40 (.cons c<|.cons c<|.cons c<|.nil _) .slnil) fun k36 H37=>bj<|M<|O c<|ah<|D ⟨true,c,H37⟩
def gq (a1:Int) (K:(ac × Bool)→Hp→Prop) (r24:Sl) (Rec9:(Int × ac)→Hp→Prop) (s8:Int × ac):Hp→Prop:=br (decide (s8.1 ≥ 0)) ( ix r24 s8.1 fun q34=>ld (q34.1,q34.2 + Int.toNat s8.1 * 16 + 0) (cI .i64) fun x36=>br (x36 == a1) ( both ( ld (q34.1,q34.2 + Int.toNat s8.1 * 16 + 10) ac.C fun x43=>ld (q34.1,q34.2 + Int.toNat s8.1 * 16 + 9) (cI .i64) fun x48=>K (x43,(decide (x48 > 0)))) ( ld (q34.1,q34.2 + Int.toNat s8.1 * 16 + 9) (cI .i64) fun x48=>ld (q34.1,q34.2 + Int.toNat s8.1 * 16 + 10) ac.C fun x43=>K (x43,(decide (x48 > 0))))) ( Rec9 ((IntKind.i64.wrap (s8.1 - 1)),s8.2))) ( K ((⟨0,0⟩:ac),false))
def qU (a0:Ptr) (a1:Int) (a2:Int) (a3:ai) (K:(ac × Bool)→Hp→Prop):Hp→Prop:=cl Tryz.prog ll [(pv a0),(.int .i64 a1),(.int .i64 a2),(.agg (ai.C a3).toArray)] aA fun r16=>br (!r16) ( K ((⟨0,0⟩:ac),false)) ( cl Tryz.prog hG [(pv a0),(.int .i64 8),(.int .i64 1000)] aA fun r20=>br (!r20) ( K ((⟨0,0⟩:ac),false)) ( cl Tryz.prog fZ [(pv a0)] eI fun r24=>Lp (gq a1 K r24) ((IntKind.i64.wrap ((r24.len:Int) - 1)),(⟨0,0⟩:ac))))
theorem sim_messuagelaw16_Run (a0:Ptr) (a1:Int) (a2:Int) (a3:ai) {K:(ac × Bool)→Hp→Prop} {h:Hp} (H:qU a0 a1 a2 a3 K h):Ct Tryz.prog eN #[(pv a0),(.int .i64 a1),(.int .i64 a2),(.agg (ai.C a3).toArray)] h fun v h'=>∃ r,v = bk r∧K r h':=aw [(pv a0),(.int .i64 a1),(.int .i64 a2),(.agg (ai.C a3).toArray)] Tryz.func16 c c c fun _=>M<|aa<|cA (l:=ai.C a3) c c c fun b7=>aa<|aP (l:=ac.C (⟨0,0⟩:ac)) di c c fun b8=>O c<|ak<|M<|J c<|J c<|J c<|bf (bE (k:=1) fy c c c c) c<|aa<|F H en_27 fun r16 _ H1=>p (ct c)<|ad<|av c H1 (fun k2 H3=>M<|p (bd (vs:=[]) c tN)<|aa<|aR (k:=0) (vs:=ac.C (⟨0,0⟩:ac)) bS c c c c c c c<|O c<|ah<|bA (bV c (bF (k:=0) c cH c c)<|cf c) ⟨((⟨0,0⟩:ac),false),c,H3⟩) fun k2 H3=>an<|ak<|M<|J c<|aa<|F H3 en_29 fun r20 _ H4=>p (ct c)<|ad<|av c H4 (fun k5 H6=>M<|p (bd (vs:=[]) c tN)<|aa<|aR (k:=0) (vs:=ac.C (⟨0,0⟩:ac)) bS c c c c c c c<|O c<|ah<|bA (bV c (bF (k:=0) c cH c c)<|cf c) ⟨((⟨0,0⟩:ac),false),c,H6⟩) fun k5 H6=>an<|M<|J c<|aa<|F H6 en_20 fun r24 _ H7=>O c<|ak<|M<|J c<|p (dl c Tryz.underlying42 c)<|p (vp c c)<|O c<|ax<|bG (step:=gq a1 K r24) (fun s8=>[(1,(.int .i64 a1)),(8,(.pointer (some ⟨b8,0,none⟩))),(10,(sv r24)),(11,(.int .i64 s8.1))]) (fun s8=>[bx b8 30 (ac.C s8.2)]) H7 (.cons c<|.cons c<|.cons c<|.cons c<|.nil _) (.cons_cons _<|.cons _ .slnil) fun Rec9 s8 _ H10=>ak<|M<|J c<|p (ij c c)<|ad<|av c H10 (fun k11 H12=>an<|ak<|ax<|M<|J c<|J c<|ck H12 fun q34 e13 h14 H15=>p (bh fu (aK c<|aX e13) c h14)<|p (ae fT c)<|aa<|aW H15 aS c (fun _=>c) c fun x36 H16=>J c<|p (bH c c)<|ad<|av c H16 (fun k17 H18=>ak<|bm (n:=13) [] cn c (.cons _ .slnil)<|U 0 c (ag c)<|U 1 c (ag c)<|U 2 c (bh fu (aK c<|aX e13) c h14)<|U 3 c (ae kE c)<|U 5 c (ag c)<|U 6 c (ag c)<|U 7 c (bh fu (aK c<|aX e13) c h14)<|U 8 c (ae dM c)<|jR H18 fun H19_1 H19_2=>jS (i:=4) (j:=9) (by kernel_rfl) (cJ c c<|gI H19_1 cH c (fun _=>c) c fun x43 H20=>⟨.cons _ .slnil,jS (i:=9) (j:=11) (by kernel_rfl) (cJ c c<|aW H20 aS c (fun _=>c) c fun x48 H22=>⟨.cons _ .slnil,U 10 c (kP c c)<|R 11 c<|aR (k:=0) (vs:=ac.C x43) bS c c c c c c c ⟨.cons _ .slnil,U 12 c (ar c)<|aO (by kernel_rfl)<|ah<|bA (bV c (bF (k:=0) c cH c c)<|cf c) ⟨(x43,(decide (x48 > 0))),c,H22⟩⟩⟩)<|cJ c c<|aR (k:=0) (vs:=ac.C x43) bS c c c c c c c ⟨.cons _ .slnil,bJ (i:=9) (fun _ _ _ _ hh=>hh) H20 c (by kernel_rfl) aS c (fun _=>c) c fun x48 H22=>U 10 c (kP c c)<|U 12 c (ar c)<|aO (by kernel_rfl)<|ah<|bA (bV c (bF (k:=0) c cH c c)<|cf c) ⟨(x43,(decide (x48 > 0))),c,H22⟩⟩⟩)<|cJ c c<|aW H19_2 aS c (fun _=>c) c fun x48 H20=>⟨.cons _ .slnil,U 10 c (kP c c)<|xw (i:=4) (fun _ _ _ _ hh=>hh) H20 c (by kernel_rfl) cH c (fun _=>c) c fun x43 H21=>R 11 c<|aR (k:=0) (vs:=ac.C x43) bS c c c c c c c ⟨.cons _ .slnil,U 12 c (ar c)<|aO (by kernel_rfl)<|ah<|bA (bV c (bF (k:=0) c cH c c)<|cf c) ⟨(x43,(decide (x48 > 0))),c,H21⟩⟩⟩) fun k17 H18=>an<|ap<|J c<|p (vp c c)<|O c<|cM ((IntKind.i64.wrap (s8.1 - 1)),s8.2) H18 (.cons c<|.cons c<|.cons c<|.cons c<|.nil _)<|.cons_cons _ .slnil) fun k11 H12=>bj<|M<|p (bd (vs:=[]) c tN)<|aa<|aR (k:=0) (vs:=ac.C (⟨0,0⟩:ac)) bS c c c c c c c<|O c<|ah<|bA (bV c (bF (k:=0) c cH c c)<|cf c) ⟨((⟨0,0⟩:ac),false),c,H12⟩
def oO (K:Bool→Hp→Prop):Hp→Prop:=cl Tryz.prog xk [(.agg (au.C (⟨2,2,3⟩:au)).toArray)] sD fun r21=>br r21.isNone ( K false) ( cl Tryz.prog eN [(pv r21),(.int .i64 0),(.int .i64 0),(.agg (ai.C (⟨1,1,0,0,0⟩:ai)).toArray)] bk fun r27=>cl Tryz.prog eN [(pv r21),(.int .i64 0),(.int .i64 0),(.agg (ai.C (⟨6,4,1,3,0⟩:ai)).toArray)] bk fun r33=>cl Tryz.prog eN [(pv r21),(.int .i64 1),(.int .i64 0),(.agg (ai.C (⟨21,4,2,9,0⟩:ai)).toArray)] bk fun r39=>cl Tryz.prog eN [(pv r21),(.int .i64 0),(.int .i64 0),(.agg (ai.C (⟨20,4,2,0,0⟩:ai)).toArray)] bk fun r45=>cl Tryz.prog eN [(pv r21),(.int .i64 0),(.int .i64 0),(.agg (ai.C (⟨7,4,0,0,0⟩:ai)).toArray)] bk fun r51=>cl Tryz.prog fZ [(pv r21)] eI fun r55=>cl Tryz.prog pf [(sv r55),(.agg (au.C (⟨2,2,3⟩:au)).toArray)] bQ fun r59=>cl Tryz.prog ph [(sv r55),(.agg (au.C (⟨2,2,3⟩:au)).toArray)] bQ fun r65=>cl Tryz.prog vd [(.int .i64 2),(.int .i64 3)] ii fun r68=>cl Tryz.prog kU [] aA fun r69=>br (((((((((((((((r69 && r27.2) && r33.2) && r39.2) && r45.2) && r51.2) && (r27.1.fErr == 0)) && (r33.1.fErr == 0)) && (r39.1.fErr == 0)) && (r45.1.fVal == 9)) && (r51.1.fErr == 0)) && ((r55.len:Int) == 5)) && (r59.1 == (-1))) && r59.2) && (r65.1 == (-1))) && r65.2) ( cl Tryz.prog qn [(sv r55),(.agg (au.C (⟨2,2,3⟩:au)).toArray)] aA fun r132=>br r132 ( cl Tryz.prog pj [(sv r55)] cG fun r136=>br (((r136.len:Int) == 5) && ((r68.len:Int) == 12)) ( cl Tryz.prog n_fair_Fair [(sv r68),(.int .i64 2),(.int .i64 5)] aA fun r147=>br r147 ( cl Tryz.prog n_twin_View [(sv r55),(.int .i64 0)] nq fun r151=>br ((r151.len:Int) == 5) ( cl Tryz.prog uZ [(sv r55),(.agg (au.C (⟨2,2,3⟩:au)).toArray)] aA fun r158=>K r158) ( K false)) ( K false)) ( K false)) ( K false)) ( K false))
theorem vw {K:Bool→Hp→Prop} {h:Hp} (H:oO K h):Ct Tryz.prog kS #[] h fun v h'=>∃ r,v = aA r∧K r h':=aw [] Tryz.func14 c c c fun _=>M<|O c<|M<|p (bd c<|tO 2 2 3)<|aa<|aP (l:=au.C (⟨0,0,0⟩:au)) zero_25 c c fun b1=>aa<|aR (k:=0) (vs:=au.C (⟨2,2,3⟩:au)) inf_25 c c c c c c c<|ad<|M<|bf (bE (k:=0) mK c c c c) c<|aa<|F H en_23 fun r21 _ H1=>O c<|ak<|M<|J c<|p (cr Tryz.underlying26 c)<|ad<|av c H1 (fun k2 H3=>M<|O c<|ah<|D ⟨false,c,H3⟩) fun k2 H3=>an<|M<|J c<|p (bd c<|mD 1 1)<|aa<|F H3 en_16 fun r27 _ H4=>J c<|p (aj c c)<|p (aj c c)<|aa<|aP (l:=ac.C (⟨0,0⟩:ac)) di c c fun b3=>aa<|aR (k:=0) (vs:=ac.C r27.1) bS c c c c c c c<|O c<|M<|J c<|p (bd c<|jU 6 4 1 3)<|aa<|F H4 en_16 fun r33 _ H5=>J c<|p (aj c c)<|p (aj c c)<|aa<|aP (l:=ac.C (⟨0,0⟩:ac)) di c c fun b5=>aa<|aR (k:=0) (vs:=ac.C r33.1) bS c c c c c c c<|O c<|M<|J c<|p (bd c<|jU 21 4 2 9)<|aa<|F H5 en_16 fun r39 _ H6=>J c<|p (aj c c)<|p (aj c c)<|aa<|aP (l:=ac.C (⟨0,0⟩:ac)) di c c fun b7=>aa<|aR (k:=0) (vs:=ac.C r39.1) bS c c c c c c c<|O c<|M<|J c<|p (bd c<|tM 20 4 2)<|aa<|F H6 en_16 fun r45 _ H7=>J c<|p (aj c c)<|p (aj c c)<|aa<|aP (l:=ac.C (⟨0,0⟩:ac)) di c c fun b9=>aa<|aR (k:=0) (vs:=ac.C r45.1) bS c c c c c c c<|O c<|M<|J c<|p (bd c<|mD 7 4)<|aa<|F H7 en_16 fun r51 _ H8=>J c<|p (aj c c)<|p (aj c c)<|aa<|aP (l:=ac.C (⟨0,0⟩:ac)) di c c fun b11=>aa<|aR (k:=0) (vs:=ac.C r51.1) bS c c c c c c c<|O c<|M<|J c<|aa<|F H8 en_20 fun r55 _ H9=>O c<|M<|J c<|bf (bE (k:=5) mK c c c c) c<|aa<|F H9 en_47 fun r59 _ H10=>J c<|p (aj c c)<|p (aj c c)<|p (ar c)<|O c<|M<|J c<|bf (bE (k:=5) mK c c c c) c<|aa<|F H10 en_48 fun r65 _ H11=>J c<|p (aj c c)<|p (aj c c)<|p (ar c)<|O c<|M<|aa<|F H11 en_49 fun r68 _ H12=>O c<|M<|aa<|F H12 en_50 fun r69 _ H13=>J c<|V c c (ay _) (fun g14=>wv<|ag c)<|p (bO c c)<|J c<|V c c (ay _) (fun g15=>wv<|ag c)<|p (bO c c)<|J c<|V c c (ay _) (fun g16=>wv<|ag c)<|p (bO c c)<|J c<|V c c (ay _) (fun g17=>wv<|ag c)<|p (bO c c)<|J c<|V c c (ay _) (fun g18=>wv<|ag c)<|p (bO c c)<|J c<|V c c (ay _) (fun g19=>wv<|ae kG c)<|V c c (ay _) (fun g20=>cv<|ba (k:=4) oS (az c g20) c c)<|V c c (ay _) (fun g21=>wv<|bH (az c g21) c)<|p (bO c c)<|J c<|V c c (ay _) (fun g22=>wv<|ae kG c)<|V c c (ay _) (fun g23=>cv<|ba (k:=3) oS (az c g23) c c)<|V c c (ay _) (fun g24=>wv<|bH (az c g24) c)<|p (bO c c)<|J c<|V c c (ay _) (fun g25=>wv<|ae kG c)<|V c c (ay _) (fun g26=>cv<|ba (k:=2) oS (az c g26) c c)<|V c c (ay _) (fun g27=>wv<|bH (az c g27) c)<|p (bO c c)<|J c<|V c c (ay _) (fun g28=>wv<|ae fld_30_1 c)<|V c c (ay _) (fun g29=>cv<|ba (k:=1) cy (az c g29) c c)<|V c c (ay _) (fun g30=>wv<|bH (az c g30) c)<|p (bO c c)<|J c<|V c c (ay _) (fun g31=>wv<|ae kG c)<|V c c (ay _) (fun g32=>cv<|ba (k:=0) oS (az c g32) c c)<|V c c (ay _) (fun g33=>wv<|bH (az c g33) c)<|p (bO c c)<|J c<|V c c (ay _) (fun g34=>wv<|ag c)<|V c c (ay _) (fun g35=>wv<|dl c Tryz.underlying42<|az c g35)<|V c c (ay _) (fun g36=>wv<|bH (az c g36) c)<|p (bO c c)<|J c<|V c c (ay _) (fun g37=>wv<|ag c)<|V c c (ay _) (fun g38=>wv<|bH (az c g38) c)<|p (bO c c)<|J c<|V c c (ay _) (fun g39=>wv<|ag c)<|p (bO c c)<|J c<|V c c (ay _) (fun g40=>wv<|ag c)<|V c c (ay _) (fun g41=>wv<|bH (az c g41) c)<|p (bO c c)<|J c<|V c c (ay _) (fun g42=>wv<|ag c)<|p (bO c c)<|J c<|V c c (ay _) (fun g43=>wv<|ag c)<|V c c (ay _) (fun g44=>cv<|bE (k:=5) mK c c c c)<|bT H13 (fun k46 H47=>G (Y k46)<|gm H47 en_25 (aT (az c k46)<|aT (az c k46) bW) c fun r132 _ H48=>p (aI c k46 c)<|J c<|V c c (ay _) (fun g49=>wv<|ag c)<|bT H48 (fun k51 H52=>G (Y k51)<|gm H52 en_44 (aT (az c k51) bW) c fun r136 _ H53=>G (Y k51)<|z_p (dl c Tryz.underlying39 c)<|G (Y k51)<|z_p (bH c c)<|p (aI c k51 c)<|J c<|V c c (ay _) (fun g54=>wv<|ag c)<|V c c (ay _) (fun g55=>wv<|dl c Tryz.underlying45<|az c g55)<|V c c (ay _) (fun g56=>wv<|bH (az c g56) c)<|p (bO c c)<|J c<|V c c (ay _) (fun g57=>wv<|ag c)<|bT H53 (fun k59 H60=>G (Y k59)<|gm H60 en_51 (aT (az c k59)<|aT c<|aT c bW) c fun r147 _ H61=>p (aI c k59 c)<|J c<|V c c (ay _) (fun g62=>wv<|ag c)<|bT H61 (fun k64 H65=>G (Y k64)<|gm H65 en_52 (aT (az c k64)<|aT c bW) c fun r151 _ H66=>G (Y k64)<|z_p (dl c Tryz.underlying101 c)<|G (Y k64)<|z_p (bH c c)<|p (aI c k64 c)<|J c<|V c c (ay _) (fun g67=>wv<|ag c)<|V c c (ay _) (fun g68=>cv<|bE (k:=5) mK c c c c)<|bT H66 (fun k70 H71=>G (Y k70)<|gm H71 en_19 (aT (az c k70)<|aT (az c k70) bW) c fun r158 _ H72=>p (aI c k70 c)<|O c<|ah<|D ⟨r158,c,H72⟩) fun k70 H71=>W (aJ k70)<|p (ao c k70 c)<|O c<|ah<|D ⟨false,c,H71⟩) fun k64 H65=>W (aJ k64)<|W (aJ k64)<|W (aJ k64)<|p (ao c k64 c)<|J c<|W c<|W c<|W c<|p (ao c c c)<|O c<|ah<|D ⟨false,c,H65⟩) fun k59 H60=>W (aJ k59)<|p (ao c k59 c)<|J c<|W c<|W c<|W c<|W c<|p (ao c c c)<|J c<|W c<|W c<|W c<|p (ao c c c)<|O c<|ah<|D ⟨false,c,H60⟩) fun k51 H52=>W (aJ k51)<|W (aJ k51)<|W (aJ k51)<|p (ao c k51 c)<|J c<|W c<|W c<|W c<|p (ao c c c)<|J c<|W c<|W c<|p (ao c c c)<|J c<|W c<|W c<|W c<|W c<|p (ao c c c)<|J c<|W c<|W c<|W c<|p (ao c c c)<|O c<|ah<|D ⟨false,c,H52⟩) fun k46 H47=>W (aJ k46)<|p (ao c k46 c)<|J c<|W c<|W c<|W c<|W c<|p (ao c c c)<|J c<|W c<|W c<|W c<|p (ao c c c)<|J c<|W c<|W c<|p (ao c c c)<|J c<|W c<|W c<|W c<|W c<|p (ao c c c)<|J c<|W c<|W c<|W c<|p (ao c c c)<|O c<|ah<|D ⟨false,c,H47⟩
def qV (a0:Sl) (a1:Int) (K:Sl→Hp→Prop):Hp→Prop:=hpv Tryz.prog (Instr.sliceAt lv (sv a0) none (some (.int .i64 (mn (a0.len:Int) a1))) none) ii fun (v10:Sl)=>K v10
theorem sim_messuagelaw16_Cut (a0:Sl) (a1:Int) {K:Sl→Hp→Prop} {h:Hp} (H:qV a0 a1 K h):Ct Tryz.prog mS #[(sv a0),(.int .i64 a1)] h fun v h'=>∃ r,v = ii r∧K r h':=aw [(sv a0),(.int .i64 a1)] Tryz.func22 c c c fun _=>M<|O c<|M<|J c<|J c<|p (dl c Tryz.underlying45 c)<|J c<|p (v_minT c c)<|aa<|aU H (eS c c c c c) c fun v10 _ H1=>O c<|ah<|D ⟨v10,c,H1⟩
def rN (a0:Ptr) (a1:ci) (K:Bool→Hp→Prop):Hp→Prop:=br (a1.fKind == 1) ( cl Tryz.prog ll [(pv a0),(.int .i64 a1.fCore),(.int .i64 a1.fEnv),(.agg (ai.C a1.fCall).toArray)] aA fun r16=>K r16) ( br (a1.fKind == 2) ( cl Tryz.prog mt [(pv a0),(.int .i64 a1.fCore)] aA fun r22=>K r22) ( br (a1.fKind == 3) ( cl Tryz.prog mu [(pv a0),(.int .i64 a1.fCore)] aA fun r28=>K r28) ( br (a1.fKind == 4) ( cl Tryz.prog pd [(pv a0),(.int .i64 a1.fCore),(.int .i64 a1.fSet),(.int .i64 a1.fWay)] aA fun r40=>K r40) ( K false))))
theorem sim_messuagelaw16_Do (a0:Ptr) (a1:ci) {K:Bool→Hp→Prop} {h:Hp} (H:rN a0 a1 K h):Ct Tryz.prog nI #[(pv a0),(.agg (ci.C a1).toArray)] h fun v h'=>∃ r,v = aA r∧K r h':=aw [(pv a0),(.agg (ci.C a1).toArray)] Tryz.func24 c c c fun _=>M<|aa<|cA (l:=ci.C a1) c c c fun b3=>O c<|ak<|M<|p (ae fld_51_0 c)<|bf (ba (k:=0) aS c c c) c<|ad<|ax<|M<|p (bH c c)<|O c<|av c H (fun k1 H2=>M<|J c<|p (ae fld_51_1 c)<|bf (ba (k:=0) aS c c c) c<|p (ae fld_51_2 c)<|bf (ba (k:=0) aS c c c) c<|p (ae fld_51_3 c)<|bf (bE (k:=0) fy c c c c) c<|aa<|F H2 en_27 fun r16 _ H3=>O c<|ah<|D ⟨r16,c,H3⟩) fun k1 H2=>M<|p (bH c c)<|O c<|av c H2 (fun k4 H5=>M<|J c<|p (ae fld_51_1 c)<|bf (ba (k:=0) aS c c c) c<|aa<|F H5 en_28 fun r22 _ H6=>O c<|ah<|D ⟨r22,c,H6⟩) fun k4 H5=>M<|p (bH c c)<|O c<|av c H5 (fun k7 H8=>M<|J c<|p (ae fld_51_1 c)<|bf (ba (k:=0) aS c c c) c<|aa<|F H8 en_46 fun r28 _ H9=>O c<|ah<|D ⟨r28,c,H9⟩) fun k7 H8=>an<|M<|p (ae fld_51_0 c)<|bf (ba (k:=0) aS c c c) c<|p (bH c c)<|J c<|V c c (ay _) (fun g10=>wv<|ag c)<|V c c (ay _) (fun g11=>wv<|ae fld_51_1 c)<|V c c (ay _) (fun g12=>cv<|ba (k:=0) aS (az c g12) c c)<|V c c (ay _) (fun g13=>wv<|ae fld_51_4 c)<|V c c (ay _) (fun g14=>cv<|ba (k:=0) aS (az c g14) c c)<|V c c (ay _) (fun g15=>wv<|ae fld_51_5 c)<|V c c (ay _) (fun g16=>cv<|ba (k:=0) aS (az c g16) c c)<|bT H8 (fun k18 H19=>G (Y k18)<|gm H19 en_60 (aT (az c k18)<|aT (az c k18)<|aT (az c k18)<|aT (az c k18) bW) c fun r40 _ H20=>p (aI c k18 c)<|O c<|ah<|D ⟨r40,c,H20⟩) fun k18 H19=>W (aJ k18)<|p (ao c k18 c)<|O c<|ah<|D ⟨false,c,H19⟩
def cC (a0:au) (K:Bool→Hp→Prop) (r38:Sl) (s28:Unit):Hp→Prop:=cl Tryz.prog qn [(sv r38),(.agg (au.C (bK a0)).toArray)] aA fun r97=>cl Tryz.prog gZ [(sv r38),(.agg (au.C (bK a0)).toArray)] aA fun r100=>K (r97 == r100)
def iQ (a0:au) (a2:Int) (a3:Int) (a4:Int) (K:Bool→Hp→Prop) (r22:Sl) (r24:Ptr) (Rec7:Int→Hp→Prop) (s6:Int):Hp→Prop:=br (decide (s6 < (r22.len:Int))) ( ix r22 s6 fun q33=>ld (q33.1,q33.2 + Int.toNat s6 * 10) ci.C fun x34=>cl Tryz.prog nI [(pv r24),(.agg (ci.C x34).toArray)] aA fun r35=>Rec7 (IntKind.i64.wrap (s6 + 1))) ( cl Tryz.prog fZ [(pv r24)] eI fun r38=>cl Tryz.prog qn [(sv r38),(.agg (au.C (bK a0)).toArray)] aA fun r41=>br ((!r41) || ((r38.len:Int) == 0)) ( K ((r38.len:Int) == 0)) ( gd ((r38.len:Int) ≠ 0)<|ix r38 ((IntKind.i64.wrap ((a2.tmod (r38.len:Int)) + (r38.len:Int))).tmod (r38.len:Int)) fun q62=>br (((IntKind.i64.wrap ((a3.tmod 5) + 5)).tmod 5) == 0) ( st (q62.1,q62.2 + Int.toNat ((IntKind.i64.wrap ((a2.tmod (r38.len:Int)) + (r38.len:Int))).tmod (r38.len:Int)) * 16 + 7) [.int .i64 a4]<|cC a0 K r38 ()) ( br (((IntKind.i64.wrap ((a3.tmod 5) + 5)).tmod 5) == 1) ( st (q62.1,q62.2 + Int.toNat ((IntKind.i64.wrap ((a2.tmod (r38.len:Int)) + (r38.len:Int))).tmod (r38.len:Int)) * 16 + 8) [.int .i64 a4]<|cC a0 K r38 ()) ( br (((IntKind.i64.wrap ((a3.tmod 5) + 5)).tmod 5) == 2) ( st (q62.1,q62.2 + Int.toNat ((IntKind.i64.wrap ((a2.tmod (r38.len:Int)) + (r38.len:Int))).tmod (r38.len:Int)) * 16 + 9) [.int .i64 a4]<|cC a0 K r38 ()) ( br (((IntKind.i64.wrap ((a3.tmod 5) + 5)).tmod 5) == 3) ( st (q62.1,q62.2 + Int.toNat ((IntKind.i64.wrap ((a2.tmod (r38.len:Int)) + (r38.len:Int))).tmod (r38.len:Int)) * 16 + 0) [.int .i64 a4]<|cC a0 K r38 ()) ( st (q62.1,q62.2 + Int.toNat ((IntKind.i64.wrap ((a2.tmod (r38.len:Int)) + (r38.len:Int))).tmod (r38.len:Int)) * 16 + 1) [.int .i64 a4]<|cC a0 K r38 ()))))))
def mG (a0:au) (a1:Sl) (a2:Int) (a3:Int) (a4:Int) (K:Bool→Hp→Prop):Hp→Prop:=cl Tryz.prog kS [] aA fun r16=>br (!r16) ( K false) ( cl Tryz.prog mS [(sv a1),(.int .i64 120)] ii fun r22=>cl Tryz.prog xk [(.agg (au.C (bK a0)).toArray)] sD fun r24=>Lp (iQ a0 a2 a3 a4 K r22 r24) 0)
theorem sV (a0:au) (a1:Sl) (a2:Int) (a3:Int) (a4:Int) {K:Bool→Hp→Prop} {h:Hp} (H:mG a0 a1 a2 a3 a4 K h):Ct Tryz.prog nj #[(.agg (au.C a0).toArray),(sv a1),(.int .i64 a2),(.int .i64 a3),(.int .i64 a4)] h fun v h'=>∃ r,v = aA r∧K r h':=aw [(.agg (au.C a0).toArray),(sv a1),(.int .i64 a2),(.int .i64 a3),(.int .i64 a4)] Tryz.func4 c c c fun _=>M<|aa<|cA (l:=au.C a0) c c c fun b5=>O c<|M<|aa<|F H en_14 fun r16 _ H1=>O c<|ak<|M<|J c<|p (ct c)<|ad<|av c H1 (fun k2 H3=>M<|O c<|ah<|D ⟨false,c,H3⟩) fun k2 H3=>an<|M<|bf (bE (k:=0) mK c c c c) c<|aa<|cK (vs:=[(.agg (au.C a0).toArray)]) (bv<|ct_messuagelaw16_Size a0 _) en_21 c c<|J c<|aa<|F H3 en_22 fun r22 _ H4=>aa<|aR (k:=0) (vs:=au.C<|bK a0) inf_25 c c c c c c c<|O c<|M<|bf (bE (k:=0) mK c c c c) c<|aa<|F H4 en_23 fun r24 _ H5=>O c<|ak<|M<|J c<|p (dl c Tryz.underlying45 c)<|J c<|ad<|ax<|bG (step:=iQ a0 a2 a3 a4 K r22 r24) (fun s6=>[(1,(sv r22)),(2,(.int .i64 a2)),(3,(.int .i64 a3)),(4,(.int .i64 a4)),(5,(.pointer (some ⟨b5,0,none⟩))),(12,(pv r24)),(26,(.int .i64 (r22.len:Int))),(27,(.int .i64 s6))]) (fun s6=>[bx b5 25 (au.C (bK a0))]) H5 (.cons c<|.cons c<|.cons c<|.cons c<|.cons c<|.cons c<|.cons c<|.cons c<|.nil _) (.cons_cons _ .slnil) fun Rec7 s6 _ H8=>M<|p (cq c c)<|ad<|ak<|av c H8 (fun k9 H10=>an<|ak<|ax<|M<|J c<|O c<|ap<|J c<|J c<|J c<|ck H10 fun q33 e11 h12 H13=>p (bh slc_45 (aK c<|aX e11) c h12)<|aa<|gI H13 ag_51 c (fun _=>c) c fun x34 H14=>aa<|F H14 en_24 fun r35 _ H15=>ad<|ap<|p (bn c c)<|J c<|ad<|cM (IntKind.i64.wrap (s6 + 1)) H15 (.cons c<|.cons c<|.cons c<|.cons c<|.cons c<|.cons c<|.cons c<|.cons c<|.nil _)<|.cons_cons _ .slnil) fun k9 H10=>bj<|M<|J c<|aa<|F H10 en_20 fun r38 _ H16=>O c<|ak<|M<|J c<|bf (bE (k:=0) mK c c c c) c<|aa<|F H16 en_25 fun r41 _ H17=>p (ct c)<|J c<|V c c (aG _) (fun g18=>wv<|ag c)<|V c c (aG _) (fun g19=>wv<|dl c Tryz.underlying42<|az c g19)<|V c c (aG _) (fun g20=>wv<|bH (az c g20) c)<|p (cZ c c)<|ad<|av c H17 (fun k21 H22=>M<|J c<|p (dl c Tryz.underlying42 c)<|p (bH c c)<|O c<|ah<|D ⟨((r38.len:Int) == 0),c,H22⟩) fun k21 H22=>an<|M<|J c<|J c<|J c<|p (dl c Tryz.underlying42 c)<|hH H22 fun z23 H24=>p (v_rem c c z23)<|J c<|p (dl c Tryz.underlying42 c)<|p (bn c c)<|J c<|p (dl c Tryz.underlying42 c)<|p (v_rem c c z23)<|ck H24 fun q62 e25 h26 H27=>p (bh fu (aK c<|aX e25) c h26)<|O c<|eG (cC a0 K r38) (fun s28=>[(5,(.pointer (some ⟨b5,0,none⟩))),(14,(sv r38))]) (fun s28=>[bx b5 25 (au.C (bK a0))]) (M<|J c<|p (v_rem c c (by decide))<|p (bn c c)<|p (v_rem c c (by decide))<|ad<|ax<|M<|p (bH c c)<|O c<|av c H27 (fun k32 H33=>ap<|J c<|J c<|p (aL c)<|p (ae gu c)<|aa<|dh lP c c c c c H33 fun _ H34=>ad<|cz () H34 (.cons c<|.cons c<|.nil _)<|.cons_cons _ .slnil) fun k32 H33=>M<|p (bH c c)<|O c<|av c H33 (fun k35 H36=>ap<|J c<|J c<|p (aL c)<|p (ae db c)<|aa<|dh lP c c c c c H36 fun _ H37=>ad<|cz () H37 (.cons c<|.cons c<|.nil _)<|.cons_cons _ .slnil) fun k35 H36=>M<|p (bH c c)<|O c<|av c H36 (fun k38 H39=>ap<|J c<|J c<|p (aL c)<|p (ae dM c)<|aa<|dh lP c c c c c H39 fun _ H40=>ad<|cz () H40 (.cons c<|.cons c<|.nil _)<|.cons_cons _ .slnil) fun k38 H39=>M<|p (bH c c)<|O c<|av c H39 (fun k41 H42=>ap<|J c<|J c<|p (aL c)<|p (ae fT c)<|aa<|dh lP c c c c c H42 fun _ H43=>ad<|cz () H43 (.cons c<|.cons c<|.nil _)<|.cons_cons _ .slnil) fun k41 H42=>ap<|J c<|J c<|p (aL c)<|p (ae kF c)<|aa<|dh lP c c c c c H42 fun _ H44=>ad<|cz () H44 (.cons c<|.cons c<|.nil _)<|.cons_cons _ .slnil) fun s28 _ H29=>ak<|bm (n:=8) [bx b5 25 (au.C (bK a0))] cn c (.cons_cons _ .slnil)<|U 0 c (ag c)<|z_E 1 c (eA (k:=0) mK c c c c)<|U 3 c (ag c)<|z_E 4 c (eA (k:=0) mK c c c c)<|R 2 c<|F H29 en_25 fun r97 _ H30=>⟨.cons_cons _ .slnil,R 5 c<|F H30 en_26 fun r100 _ H31=>⟨.cons_cons _ .slnil,U 6 c (v_beq Tryz.underlying4 c c)<|U 7 c (ar c)<|aO (by kernel_rfl)<|ah<|D ⟨(r97 == r100),c,H31⟩⟩⟩
end Go.Proofs.YtemoifebbhoinaaGreatDoor
