/- The law RaceGrant returns true for every input, and leaves its arguments as they were. -/
import Derived.Test.YtmggcfijlpldpaaGreatDoorRaceGrant15
import Derived.Test.YtmggcfijlpldpaaGreatDoorCards
import Derived.Test.YtmggcfijlpldpaaGreatDoorRows
import Derived.Test.YtmggcfijlpldpaaGreatDoorTie
set_option linter.all false
set_option maxRecDepth 20000
namespace Go.Proofs.YtmggcfijlpldpaaGreatDoor
open Go Mb
abbrev vG (s:Sl) (xs:List Pte):As:=vec t_api_Pte 3 al.C s xs
theorem pte_one (p:Pte):dC p.C = true:=rfl
namespace Judge
def ev (es:List bQ) (i:Int):bQ:=es.getD i.toNat Hist.ev00
def takes (e:bQ):Bool:=(aC e.fCall).1 == 7 || (aC e.fCall).1 == 8 || (aC e.fCall).1 == 4 || (aC e.fCall).1 == 5
def othersFrom (k:PK) (es:List bQ) (env pg:Int):List Int→List Pte
  | []=>[]
  | i::l=>if takes (ev es i) = true then (PK.pte (PK.do_ k (ev es i).fEnv (ev es i).fCall).2 env pg).1::othersFrom k es env pg l else othersFrom k es env pg l
def others (k:PK) (es:List bQ) (at_ env pg:Int):List Pte:=(PK.pte k env pg).1::othersFrom k es env pg (Hist.over es at_)
def faults (e:bQ) (l:List Pte):Bool:=l.any fun p=>!(dh p.fRights (IntKind.i64.wrap e.fCall.e0))
def goes (e:bQ) (l:List Pte):Bool:=l.any fun p=>(p.fFrame == e.fLine.fFrame) && (be e.fLine.fRights p.fRights)
def own (e:bQ):Bool:=((e.fLine.fEnv == e.fEnv) && (e.fLine.fPage == (IntKind.i64.wrap e.fCall.e1))) && (dh e.fLine.fRights (IntKind.i64.wrap e.fCall.e0))
def access (k:PK) (es:List bQ) (s:lx) (e:bQ):Bool :=
  if Word.check e.fCall s.fEnvs ≠ 0 then (ab.eqb e.fAnswer ⟨Word.check e.fCall s.fEnvs,0⟩) && (ak.eqb e.fLine mh)
  else if e.fAnswer.fErr = 7 then (faults e (others k es e.fEffect e.fEnv (IntKind.i64.wrap e.fCall.e1)) && (e.fAnswer.fVal == 0)) && (ak.eqb e.fLine mh)
  else ((goes e (others k es e.fEffect e.fEnv (IntKind.i64.wrap e.fCall.e1)) && own e) && (PK.touch k e.fLine.fFrame e.fCall).1.2) && (ab.eqb (PK.touch k e.fLine.fFrame e.fCall).1.1 e.fAnswer)
def well (s:lx) (e:bQ):Bool:=(e.fAnswer.fErr == 0) && (Word.check e.fCall s.fEnvs == 0) && (e.fLine.fRights != 0)
def runFrom (es:List bQ) (s:lx) (lin acc:Bool):PK→List Int→Int × Bool
  | _,[]=>(-1,true)
  | k,i::l =>
    if pX (ev es i) = true then (if acc = true∧access k es s (ev es i) = false then (i,false) else runFrom es s lin acc (if well s (ev es i) = true then (PK.touch k (ev es i).fLine.fFrame (ev es i).fCall).2 else k) l)
    else if lin = true∧((PK.do_ k (ev es i).fEnv (ev es i).fCall).1.2 = false∨ab.eqb (PK.do_ k (ev es i).fEnv (ev es i).fCall).1.1 (ev es i).fAnswer = false) then (i,false)
    else runFrom es s lin acc (PK.do_ k (ev es i).fEnv (ev es i).fCall).2 l
def run (es:List bQ) (s:lx) (lin acc:Bool):Int × Bool:=if Hist.may es s = true then runFrom es s lin acc (PK.new s) (Hist.order es) else (-1,false)
def linear (es:List bQ) (s:lx):Int × Bool:=run es s true false
def accesses (es:List bQ) (s:lx):Int × Bool:=run es s false true
def right (es:List bQ) (s:lx):Bool:=(linear es s).2 && (accesses es s).2
theorem ev_nat {es:List bQ} {n:Nat} (h:n < es.length):ev es n = es[n]:=by simp [ev,h]
theorem othersFrom_app (k:PK) (es:List bQ) (env pg:Int) (i:Int):∀ l,othersFrom k es env pg (l++[i]) = othersFrom k es env pg l++(if takes (ev es i) = true then [(PK.pte (PK.do_ k (ev es i).fEnv (ev es i).fCall).2 env pg).1] else [])
  | []=>by simp only [List.nil_append,othersFrom]
  | j::l=>by
    simp only [List.cons_append,othersFrom,othersFrom_app k es env pg i l]
    split <;> simp
theorem othersFrom_len (k:PK) (es:List bQ) (env pg:Int):∀ l,(othersFrom k es env pg l).length ≤ l.length
  | []=>Nat.le_refl _
  | i::l=>by unfold othersFrom; have:=othersFrom_len k es env pg l; split <;> simp <;> omega
end Judge
abbrev jc (s:Sl) (z:lx) (pk:Ptr):List Value:=[sv s,.int .i64 z.fCores,.int .i64 z.fEnvs,.int .i64 z.fFrames,pv pk]
theorem sp_judge_others (jb:Nat) (s:Sl) (z:lx) (pk:Ptr) (es:List bQ) (k:PK) (a env pg:Int) (hb:es.length < 2 ^ 38) :
    Sp Tryz.prog li [pv (some (jb,0)),.int .i64 a,.int .i64 env,.int .i64 pg] pW [blk jb da (jc s z pk),vE s es,bk pk k] (fun r=>aE [vG r (Judge.others k es a env pg),blk jb da (jc s z pk),vE s es,bk pk k]):=by
  intro h s0
  refine wm _ _ _ _ ?_
  unfold ph
  refine cu (bi pk s0 (i:=0) rfl rfl rfl ?_)
  refine bH (rD pk k env pg) (i:=2) rfl s0 fun r h1 hr s1=>?_
  subst hr
  refine fh (τ:=Pte) [(PK.pte k env pg).1] (val:=fun x=>.agg x.C.toArray) (enc:=al.C) el_Sapi_Pte iY (fun _=>rfl) s1 rfl rfl (by simp) fun v h2 s2=>?_
  refine bi s s2 (i:=1) rfl rfl rfl ?_
  refine vz (sp_hist_Over s es a hb) (i:=2) rfl s2 fun r37 h3 s3=>?_
  have hrl:=(cd (j:=0) s3 rfl).1
  have hol:=Hist.placesFrom_len (fun e=>decide (e.fBegin ≤ a) && (e.fEffect == 0 || decide (e.fEffect > a))) es 0
  have hol':(Hist.over es a).length ≤ es.length:=hol
  refine Lp.intro (fun (y:Sl × Int) h=>∃ n:Nat,y.2 = n∧n ≤ (Hist.over es a).length∧aE [vI r37 (Hist.over es a),vG y.1 ((PK.pte k env pg).1::Judge.othersFrom k es env pg ((Hist.over es a).take n)),blk jb da (jc s z pk),vE s es,bk pk k] h) (fun (y:Sl × Int) _=>(Hist.over es a).length - y.2.toNat) ⟨0,rfl,Nat.zero_le _,s3⟩ ?_
  rintro ⟨y,i⟩ h ⟨n,rfl,hn,s4⟩
  unfold kx
  refine aV (fun d=>?_) (fun d=>?_)
  · have hlt:n < (Hist.over es a).length:=by rw [hrl] at d; have:=of_decide_eq_true d; simp at this; exact this
    have hw:IntKind.i64.wrap ((n:Int) + 1) = ((n + 1:Nat):Int):=by rw [bR (by omega) (by omega)]; rfl
    have ht:(Hist.over es a).take (n + 1) = (Hist.over es a).take n++[(Hist.over es a)[n]]:=by simp
    have hin:=Hist.places_in (List.getElem_mem hlt)
    have hes:=(cd (j:=3) s4 rfl).1
    obtain ⟨m,hm⟩:=Int.eq_ofNat_of_zero_le hin.1
    have hml:m < es.length:=by omega
    have hev:Judge.ev es (Hist.over es a)[n] = es[m]:=by rw [hm,Judge.ev_nat hml]
    have happ:=Judge.othersFrom_app k es env pg (Hist.over es a)[n] ((Hist.over es a).take n)
    rw [hev] at happ
    have hfl:=Judge.othersFrom_len k es env pg ((Hist.over es a).take n)
    simp at hfl
    refine du s4 (j:=0) rfl (by omega) (by show (n:Int) < _; omega) fun q hq=>?_
    refine ef (j:=0) (i:=n) (k:=0) (Hist.over es a)[n] (cW _) s4 rfl hq (by simp) (aD hlt) (by simp) ?_
    rw [hm]
    refine bi s s4 (i:=2) rfl rfl rfl ?_
    refine du s4 (j:=3) rfl (by omega) (by omega) fun q2 hq2=>?_
    refine ef (j:=3) (i:=m) (k:=0) es[m] mi s4 rfl hq2 rfl (aD hml) (by simp) ?_
    have j1:∀ b,b = Judge.takes es[m]→dK env pg (jb,0) (fun s' h'=>(∃ n:Nat,s'.2 = n∧n ≤ (Hist.over es a).length∧aE [vI r37 (Hist.over es a),vG s'.1 ((PK.pte k env pg).1::Judge.othersFrom k es env pg ((Hist.over es a).take n)),blk jb da (jc s z pk),vE s es,bk pk k] h')∧(Hist.over es a).length - s'.2.toNat < (Hist.over es a).length - (n:Int).toNat) (y,(n:Int)) es[m] b h:=by
      intro b hb2
      unfold dK
      rw [hb2,hw]
      refine aV (fun d2=>?_) (fun d2=>?_)
      · refine bi pk s4 (i:=2) rfl rfl rfl ?_
        refine vz (ut pk k) (i:=4) rfl s4 fun r66 h5 s5=>?_
        refine bH (jA r66 k es[m].fEnv es[m].fCall) (i:=0) rfl s5 fun r h6 hr s6=>?_
        refine bH (rD r66 _ env pg) (i:=0) rfl s6 fun r h7 hr s7=>?_
        subst hr
        refine kj (τ:=Pte) (i:=2) (enc:=al.C) (val:=fun x=>.agg x.C.toArray) el_Sapi_Pte iY pte_one (fun _=>rfl) (by omega) rfl rfl s7 rfl (by simp; omega) (by simp; omega) fun v h8 s8=>?_
        refine ⟨⟨n + 1,rfl,hlt,?_⟩,by simp; omega⟩
        rw [ht,happ,if_pos d2]
        exact bX (l:=[bk r66 _]) s8
      · refine ⟨⟨n + 1,rfl,hlt,?_⟩,by simp; omega⟩
        rw [ht,happ,if_neg (by rw [d2]; exact Bool.false_ne_true),List.append_nil]
        exact s4
    refine aV (fun c=>j1 _ (by unfold Judge.takes; rw [c]; rfl)) (fun c=>?_)
    refine aV (fun c2=>j1 _ (by unfold Judge.takes; rw [c,c2]; rfl)) (fun c2=>?_)
    refine aV (fun c3=>j1 _ (by unfold Judge.takes; rw [c,c2,c3]; rfl)) (fun c3=>j1 _ (by unfold Judge.takes; rw [c,c2,c3]; rfl))
  · have:n = (Hist.over es a).length:=by rw [hrl] at d; have:=of_decide_eq_false d; simp at this; omega
    subst this
    rw [List.take_length] at s4
    exact bX (l:=[vI r37 (Hist.over es a)]) s4
theorem any_snoc {α:Type} (f:α→Bool) (l:List α) (x:α):(l++[x]).any f = (l.any f || f x):=by simp
theorem sp_judge_access (jb:Nat) (s:Sl) (z:lx) (pk:Ptr) (es:List bQ) (k:PK) (e:bQ) (hb:es.length < 2 ^ 38) :
    Sp Tryz.prog lj [pv (some (jb,0)),.agg e.C.toArray] az [blk jb da (jc s z pk),vE s es,bk pk k] (fun r=>pa_ (r = Judge.access k es z e) [blk jb da (jc s z pk),vE s es,bk pk k]):=by
  intro h s0
  refine wn _ _ ?_
  unfold pj
  refine cu (bi z.fEnvs s0 (i:=0) rfl rfl rfl ?_)
  refine tt (iS e.fCall z.fEnvs) s0 fun r h1 hr s1=>?_
  subst hr
  refine aV (fun d=>?_) (fun d=>?_)
  · exact aU (by unfold Judge.access; rw [if_pos (by simpa using d)]) s1
  · have d':¬ Word.check e.fCall z.fEnvs ≠ 0:=by simpa using d
    refine cG [0,0,0] (sp_judge_others jb s z pk es k e.fEffect e.fEnv (IntKind.i64.wrap e.fCall.e1) hb) s1 rfl fun r50 h2 s2=>?_
    have s3:=dx s2
    have hrl:=(cd (j:=0) s3 rfl).1
    have hol':(Hist.over es e.fEffect).length ≤ es.length:=Hist.placesFrom_len _ es 0
    have hfl:=Judge.othersFrom_len k es e.fEnv (IntKind.i64.wrap e.fCall.e1) (Hist.over es e.fEffect)
    have hll:(Judge.others k es e.fEffect e.fEnv (IntKind.i64.wrap e.fCall.e1)).length < 2 ^ 39:=by unfold Judge.others; simp; omega
    generalize hL:Judge.others k es e.fEffect e.fEnv (IntKind.i64.wrap e.fCall.e1) = L at *
    refine Lp.intro (fun (y:Bool × Bool × Int) h=>∃ n:Nat,y.2.2 = n∧n ≤ L.length∧y.1 = Judge.faults e (L.take n)∧y.2.1 = Judge.goes e (L.take n)∧aE [vG r50 L,blk jb da (jc s z pk),vE s es,bk pk k] h) (fun (y:Bool × Bool × Int) _=>L.length - y.2.2.toNat) ⟨0,rfl,Nat.zero_le _,rfl,rfl,s3⟩ ?_
    rintro ⟨f,g,i⟩ h ⟨n,rfl,hn,hf,hg,s4⟩
    simp only at hf hg
    unfold ky
    refine aV (fun d2=>?_) (fun d2=>?_)
    · have hlt:n < L.length:=by rw [hrl] at d2; have:=of_decide_eq_true d2; simp at this; exact this
      have hw:IntKind.i64.wrap ((n:Int) + 1) = ((n + 1:Nat):Int):=by rw [bR (by omega) (by omega)]; rfl
      have ht:L.take (n + 1) = L.take n++[L[n]]:=by simp
      refine du s4 (j:=0) rfl (by show (0:Int) ≤ n; omega) (by show (n:Int) < _; omega) fun q hq=>?_
      refine ef (j:=0) (i:=n) (k:=0) L[n] iY s4 rfl hq rfl (aD hlt) (by simp) ?_
      rw [hw]
      refine ⟨⟨n + 1,rfl,hlt,?_,?_,s4⟩,by simp; omega⟩
      · unfold Judge.faults; rw [ht,any_snoc]; show (f || _) = _; rw [hf]; rfl
      · unfold Judge.goes; rw [ht,any_snoc]; show (g || _) = _; rw [hg]; rfl
    · have:n = L.length:=by rw [hrl] at d2; have:=of_decide_eq_false d2; simp at this; omega
      subst this
      rw [List.take_length] at hf hg
      have s5:=bX (l:=[vG r50 L]) s4
      refine aV (fun d3=>?_) (fun d3=>?_)
      · refine aU ?_ s5
        unfold Judge.access
        rw [if_neg d',if_pos (by simpa using d3),hL,← hf]
      · refine bi pk s4 (i:=1) rfl rfl rfl ?_
        refine vz (ut pk k) (i:=2) rfl s5 fun r104 h6 s6=>?_
        refine bH (nU r104 k e.fLine.fFrame e.fCall) (i:=0) rfl s6 fun r h7 hr s7=>?_
        subst hr
        refine aU ?_ (bX (l:=[bk r104 _]) s7)
        unfold Judge.access
        rw [if_neg d',if_neg (by simpa using d3),hL,← hg]
        rfl
theorem sp_judge_well (jb:Nat) (s:Sl) (z:lx) (pk:Ptr) (e:bQ) :
    Sp Tryz.prog mW [pv (some (jb,0)),.agg e.C.toArray] az [blk jb da (jc s z pk)] (fun r=>pa_ (r = Judge.well z e) [blk jb da (jc s z pk)]):=by
  intro h s0
  refine sim_judge_judge_well _ _ ?_
  unfold rq
  refine aV (fun d=>?_) (fun d=>?_)
  · refine cu (bi z.fEnvs s0 (i:=0) rfl rfl rfl ?_)
    refine tt (iS e.fCall z.fEnvs) s0 fun r h1 hr s1=>?_
    subst hr
    refine aV (fun d2=>?_) (fun d2=>?_)
    · exact aU (by unfold Judge.well; rw [d,d2]; rfl) s1
    · exact aU (by unfold Judge.well; rw [d,d2]; rfl) s1
  · exact aU (by unfold Judge.well; rw [d]; rfl) s0
abbrev OrdOk (s:Sl) (es:List bQ):Prop:=Sp Tryz.prog oC [sv s] ct [vE s es] (fun r=>aE [vI r (Hist.order es),vE s es])
theorem order_in {es:List bQ} {x:Int} (h:x ∈ Hist.order es):0 ≤ x∧x < es.length:=Hist.places_in ((Hist.isort_perm _ _).subset h)
theorem order_len (es:List bQ):(Hist.order es).length ≤ es.length:=by
  have h1:=(Hist.isort_perm (Hist.eff es) (Hist.effs es)).length_eq
  have h2:=Hist.placesFrom_len (fun e=>decide (e.fEffect > 0)) es 0
  unfold Hist.order; rw [h1]; exact h2
theorem sp_judge_run (s:Sl) (es:List bQ) (z:lx) (lin acc:Bool) (hz:PK.sized z = true) (hb:es.length < 2 ^ 38) (ho:Hist.Apart es→OrdOk s es) :
    Sp Tryz.prog ud [sv s,.agg z.C.toArray,.bool lin,.bool acc] bI [vE s es] (fun r=>pa_ (r = Judge.run es z lin acc) [vE s es]):=by
  intro h s0
  refine sim_judge_run _ _ _ _ ?_
  unfold sh_judge_run
  refine bH (sp_hist_May s es z hb) (i:=0) rfl s0 fun r h1 hr s1=>?_
  subst hr
  refine aV (fun d=>?_) (fun d=>?_)
  · exact aU (by unfold Judge.run; rw [if_neg (by simpa using d)]) s1
  · have d':Hist.may es z = true:=by simpa using d
    have er:Judge.run es z lin acc = Judge.runFrom es z lin acc (PK.new z) (Hist.order es):=if_pos d'
    rw [er]
    refine lT (rE z hz) s1 fun pk h2 s2=>?_
    refine oR s2 fun b25 h3 s3=>?_
    refine vz (ho (Hist.may_apart d')) (i:=2) rfl s3 fun r27 h4 s4=>?_
    have hol:=order_len es
    have hrl:=(cd (j:=0) s4 rfl).1
    refine Lp.intro (fun (i:Int) h=>∃ (n:Nat) (k:PK),i = n∧n ≤ (Hist.order es).length∧Judge.runFrom es z lin acc k ((Hist.order es).drop n) = Judge.runFrom es z lin acc (PK.new z) (Hist.order es)∧aE [vI r27 (Hist.order es),blk b25 da (jc s z pk),bk pk k,vE s es] h) (fun (i:Int) _=>(Hist.order es).length - i.toNat) ⟨0,_,rfl,Nat.zero_le _,rfl,s4⟩ ?_
    rintro i h ⟨n,k,rfl,hn,he,s5⟩
    have fin:∀ h,aE [vI r27 (Hist.order es),blk b25 da (jc s z pk),bk pk k,vE s es] h→aE [vE s es] h:=fun h s=>bX (l:=[_,_,_]) s
    unfold wN
    refine aV (fun d2=>?_) (fun d2=>?_)
    · have hlt:n < (Hist.order es).length:=by rw [hrl] at d2; simpa using d2
      have hw:IntKind.i64.wrap ((n:Int) + 1) = ((n + 1:Nat):Int):=by rw [bR (by omega) (by omega)]; rfl
      have hin:=order_in (List.getElem_mem hlt)
      have hes:=(cd (j:=3) s5 rfl).1
      obtain ⟨m,hm⟩:=Int.eq_ofNat_of_zero_le hin.1
      have hml:m < es.length:=by omega
      have hev:Judge.ev es (Hist.order es)[n] = es[m]:=by rw [hm,Judge.ev_nat hml]
      rw [List.drop_eq_getElem_cons hlt,Judge.runFrom,hev] at he
      refine du s5 (j:=0) rfl (by omega) (by omega) fun q hq=>?_
      refine ef (j:=0) (i:=n) (k:=0) (Hist.order es)[n] (cW _) s5 rfl hq (by simp) (aD hlt) (by simp) ?_
      rw [hm]
      refine du s5 (j:=3) rfl (by omega) (by omega) fun q2 hq2=>?_
      refine ef (j:=3) (i:=m) (k:=0) es[m] mi s5 rfl hq2 rfl (aD hml) (by simp) ?_
      have hmi:((m:Int),false) = ((Hist.order es)[n],false):=by rw [hm]
      refine aV (fun d3=>?_) (fun d3=>?_)
      · rw [if_pos d3] at he
        have j1:∀ h,(acc = true∧Judge.access k es z es[m] = false) = False→aE [vI r27 (Hist.order es),blk b25 da (jc s z pk),bk pk k,vE s es] h→rQ b25 (fun s' h'=>(∃ (n:Nat) (k:PK),s' = n∧n ≤ (Hist.order es).length∧Judge.runFrom es z lin acc k ((Hist.order es).drop n) = Judge.runFrom es z lin acc (PK.new z) (Hist.order es)∧aE [vI r27 (Hist.order es),blk b25 da (jc s z pk),bk pk k,vE s es] h')∧(Hist.order es).length - s'.toNat < (Hist.order es).length - (n:Int).toNat) (n:Int) es[m] () h:=by
          intro h hno s6
          rw [if_neg (by rw [hno]; exact not_false)] at he
          unfold rQ
          refine bH (sp_judge_well b25 s z pk es[m]) (i:=1) rfl s6 fun r h7 hr s7=>?_
          subst hr
          rw [hw]
          refine aV (fun d4=>?_) (fun d4=>?_)
          · rw [if_pos d4] at he
            refine bi pk s7 (i:=1) rfl rfl rfl ?_
            refine bH (nU pk k es[m].fLine.fFrame es[m].fCall) (i:=2) rfl s7 fun r h8 hr s8=>?_
            exact ⟨⟨n + 1,_,rfl,hlt,he,s8⟩,by simp; omega⟩
          · rw [if_neg (by rw [d4]; exact Bool.false_ne_true)] at he
            exact ⟨⟨n + 1,_,rfl,hlt,he,s7⟩,by simp; omega⟩
        unfold rP
        refine aV (fun d4=>?_) (fun d4=>?_)
        · refine cG [1,2,1] (sp_judge_access b25 s z pk es k es[m] hb) s5 rfl fun r h6 s6=>?_
          obtain ⟨hr,s7⟩:=bn.1 s6
          subst hr
          have s8:aE [vI r27 (Hist.order es),blk b25 da (jc s z pk),bk pk k,vE s es] h6:=ba [3,0,1] s7 rfl
          refine aV (fun d5=>?_) (fun d5=>?_)
          · rw [if_pos ⟨d4,by simpa using d5⟩] at he
            exact aU (by rw [← he,hm]) (fin _ s8)
          · exact j1 h6 (by simp; intro _; simpa using d5) s8
        · refine cZ rfl ?_
          exact j1 h (by rw [d4]; simp) s5
      · rw [if_neg (by rw [d3]; exact Bool.false_ne_true)] at he
        refine bi pk s5 (i:=1) rfl rfl rfl ?_
        refine bH (jA pk k es[m].fEnv es[m].fCall) (i:=2) rfl s5 fun r h6 hr s6=>?_
        subst hr
        refine aV (fun d4=>?_) (fun d4=>?_)
        · have d4':lin = true∧((PK.do_ k es[m].fEnv es[m].fCall).1.2 = false∨ab.eqb (PK.do_ k es[m].fEnv es[m].fCall).1.1 es[m].fAnswer = false):=by simpa using d4
          rw [if_pos d4'] at he
          exact aU (by rw [← he,hm]) (bX (l:=[_,_,_]) s6)
        · have d4':¬ (lin = true∧((PK.do_ k es[m].fEnv es[m].fCall).1.2 = false∨ab.eqb (PK.do_ k es[m].fEnv es[m].fCall).1.1 es[m].fAnswer = false)):=by simpa using d4
          rw [if_neg d4'] at he
          rw [hw]
          exact ⟨⟨n + 1,_,rfl,hlt,he,s6⟩,by simp; omega⟩
    · have:n = (Hist.order es).length:=by rw [hrl] at d2; simp at d2; omega
      subst this
      rw [List.drop_length] at he
      exact aU he (fin h s5)
section
variable (s:Sl) (es:List bQ) (z:lx) (hz:PK.sized z = true) (hb:es.length < 2 ^ 38) (ho:Hist.Apart es→OrdOk s es)
include hz hb ho
theorem sp_judge_Linear:Sp Tryz.prog oA [sv s,.agg z.C.toArray] bI [vE s es] (fun r=>pa_ (r = Judge.linear es z) [vE s es]):=by
  intro h s0
  refine sim_judge_Linear _ _ ?_
  unfold sh_judge_Linear
  exact bH (sp_judge_run s es z true false hz hb ho) (i:=0) rfl s0 fun r h1 hr s1=>aU hr s1
theorem sp_judge_Access:Sp Tryz.prog oB [sv s,.agg z.C.toArray] bI [vE s es] (fun r=>pa_ (r = Judge.accesses es z) [vE s es]):=by
  intro h s0
  refine sim_judge_Access _ _ ?_
  unfold sh_judge_Access
  exact bH (sp_judge_run s es z false true hz hb ho) (i:=0) rfl s0 fun r h1 hr s1=>aU hr s1
theorem sp_judge_Right:Sp Tryz.prog qa [sv s,.agg z.C.toArray] az [vE s es] (fun r=>pa_ (r = Judge.right es z) [vE s es]):=by
  intro h s0
  refine sim_judge_Right _ _ ?_
  unfold sh_judge_Right
  refine bH (sp_judge_Linear s es z hz hb ho) (i:=0) rfl s0 fun r h1 hr s1=>?_
  subst hr
  exact bH (sp_judge_Access s es z hz hb ho) (i:=0) rfl s1 fun r h2 hr s2=>aU (by rw [hr]; rfl) s2
end
end Go.Proofs.YtmggcfijlpldpaaGreatDoor
namespace Go.Proofs.YtmggcfijlpldpaaGreatDoor
open Go Mb
set_option linter.unusedVariables false
def ta (a0:Int) (Rec17:(Sl × Int)→Hp→Prop) (s16:Sl × Int) (x32:Int) (Rec26:(Sl × Int)→Hp→Prop) (s25:Sl × Int):Hp→Prop:=br (decide (s25.2 < a0)) ( hpv Tryz.prog (Instr.buildSlice nl 1 #[(0,(.agg (dL.C (⟨x32,s25.2,0,(⟨0,0,0,0,0⟩:ah),0,0⟩:dL)).toArray))]) nM fun (v41:Sl)=>hpv Tryz.prog (Builtin.append_ #[nl,nl] nl #[(sv s25.1),(sv v41)]) nM fun (v42:Sl)=>Rec26 (v42,(IntKind.i64.wrap (s25.2 + 1)))) ( Rec17 (s25.1,(IntKind.i64.wrap (s16.2 + 1))))
def tb (a0:Int) (Rec11:(Sl × Int)→Hp→Prop) (s10:Sl × Int) (v27:Sl) (Rec17:(Sl × Int)→Hp→Prop) (s16:Sl × Int):Hp→Prop:=br (decide (s16.2 < (v27.len:Int))) ( ix v27 s16.2 fun q31=>ld (q31.1,q31.2 + Int.toNat s16.2 * 1) (cI .i64) fun x32=>Lp (ta a0 Rec17 s16 x32) (s16.1,0)) ( Rec11 (s16.1,(IntKind.i64.wrap (s10.2 + 1))))
def tc (a0:Int) (a1:Int) (K:Sl→Hp→Prop) (Rec11:(Sl × Int)→Hp→Prop) (s10:Sl × Int):Hp→Prop:=br (decide (s10.2 < a1)) ( hpv Tryz.prog (Instr.buildSlice dB 2 #[(0,(.int .i64 3)),(1,(.int .i64 2))]) ct fun (v27:Sl)=>Lp (tb a0 Rec11 s10 v27) (s10.1,0)) ( K s10.1)
def sh_fair_Rounds (a0:Int) (a1:Int) (K:Sl→Hp→Prop):Hp→Prop:=br ((((decide (a0 < 1)) || (decide (a0 > 8))) || (decide (a1 < 0))) || (decide (a1 > 500))) ( K (⟨none,0,0,none⟩:Sl)) ( hpv Tryz.prog (Instr.buildSlice nl 0 #[]) nM fun (v23:Sl)=>Lp (tc a0 a1 K) (v23,0))
theorem sim_fair_Rounds (a0:Int) (a1:Int) {K:Sl→Hp→Prop} {h:Hp} (H:sh_fair_Rounds a0 a1 K h):Ct Tryz.prog uB #[(.int .i64 a0),(.int .i64 a1)] h fun v h'=>∃ r,v = nM r∧K r h':=aw [(.int .i64 a0),(.int .i64 a1)] Tryz.func41 c c c fun _=>M<|O c<|aj<|M<|J c<|p (cm c c)<|J c<|V c c (aK _) (fun g1=>wv<|ae c)<|V c c (aK _) (fun g2=>wv<|qi (aB c g2) c)<|p (dm c c)<|J c<|V c c (aK _) (fun g3=>wv<|ae c)<|V c c (aK _) (fun g4=>wv<|cm (aB c g4) c)<|p (dm c c)<|J c<|V c c (aK _) (fun g5=>wv<|ae c)<|V c c (aK _) (fun g6=>wv<|qi (aB c g6) c)<|p (dm c c)<|ac<|av c H (fun k7 H8=>M<|O c<|ag<|Y ⟨(⟨none,0,0,none⟩:Sl),c,H8⟩) fun k7 H8=>am<|M<|aa<|aR H8 (bp (vs:=[]) c) c fun v23 _ H9=>O c<|aj<|M<|J c<|J c<|ac<|ax<|bB (step:=tc a0 a1 K) (fun s10=>[(0,(.int .i64 a0)),(5,(sv s10.1)),(24,(.int .i64 a1)),(25,(.int .i64 s10.2))]) (fun s10=>[]) H9 (.cons c<|.cons c<|.cons c<|.cons c<|.nil _) .slnil fun Rec11 s10 _ H12=>M<|p (cm c c)<|ac<|aj<|av c H12 (fun k13 H14=>am<|aj<|ax<|M<|aa<|aR H14 (bp (vs:=[(.int .i64 3),(.int .i64 2)]) c) c fun v27 _ H15=>p (dv c Tryz.underlying40 c)<|J c<|ac<|ax<|bB (step:=tb a0 Rec11 s10 v27) (fun s16=>[(0,(.int .i64 a0)),(5,(sv s16.1)),(24,(.int .i64 a1)),(25,(.int .i64 s10.2)),(27,(sv v27)),(28,(.int .i64 (v27.len:Int))),(29,(.int .i64 s16.2))]) (fun s16=>[]) H15 (.cons c<|.cons c<|.cons c<|.cons c<|.cons c<|.cons c<|.cons c<|.nil _) .slnil fun Rec17 s16 _ H18=>M<|p (cm c c)<|ac<|aj<|av c H18 (fun k19 H20=>am<|aj<|ax<|M<|cg H20 fun q31 e21 h22 H23=>p (bm gV (aL c<|aY e21) c h22)<|aa<|aT H23 aW c (fun _=>c) c fun x32 H24=>O c<|M<|J c<|J c<|ac<|ax<|bB (step:=ta a0 Rec17 s16 x32) (fun s25=>[(0,(.int .i64 a0)),(5,(sv s25.1)),(7,(.int .i64 x32)),(24,(.int .i64 a1)),(25,(.int .i64 s10.2)),(27,(sv v27)),(28,(.int .i64 (v27.len:Int))),(29,(.int .i64 s16.2)),(33,(.int .i64 a0)),(34,(.int .i64 s25.2))]) (fun s25=>[]) H24 (.cons c<|.cons c<|.cons c<|.cons c<|.cons c<|.cons c<|.cons c<|.cons c<|.cons c<|.cons c<|.nil _) .slnil fun Rec26 s25 _ H27=>M<|p (cm c c)<|ac<|aj<|av c H27 (fun k28 H29=>am<|aj<|ax<|M<|J c<|O c<|ap<|J c<|J c<|J c<|p (aX c<|build_63_0_1 x32 s25.2)<|aa<|aR H29 (bp (vs:=[(.agg (dL.C (⟨x32,s25.2,0,(⟨0,0,0,0,0⟩:ah),0,0⟩:dL)).toArray)]) c) c fun v41 _ H30=>aa<|aR H30 (dA c c) c fun v42 _ H31=>O c<|ap<|p (bt c c)<|J c<|ac<|cF (v42,(IntKind.i64.wrap (s25.2 + 1))) H31 (.cons c<|.cons c<|.cons c<|.cons c<|.cons c<|.cons c<|.cons c<|.cons c<|.cons c<|.cons c<|.nil _) .slnil) fun k28 H29=>bh<|ap<|p (bt c c)<|J c<|ac<|cF (s25.1,(IntKind.i64.wrap (s16.2 + 1))) H29 (.cons c<|.cons c<|.cons c<|.cons c<|.cons c<|.cons c<|.cons c<|.nil _) .slnil) fun k19 H20=>bh<|ap<|p (bt c c)<|J c<|ac<|cF (s16.1,(IntKind.i64.wrap (s10.2 + 1))) H20 (.cons c<|.cons c<|.cons c<|.cons c<|.nil _) .slnil) fun k13 H14=>bh<|M<|J c<|O c<|ag<|Y ⟨s10.1,c,H14⟩
def qW (a0:Sl) (a1:Int) (a2:Int) (K:Int→Hp→Prop) (Rec2:(Int × Int × Int)→Hp→Prop) (s1:Int × Int × Int):Hp→Prop:=br (decide (s1.2.2 < (a0.len:Int))) ( ix a0 s1.2.2 fun q15=>ld (q15.1,q15.2 + Int.toNat s1.2.2 * 10) dL.C fun x16=>br ((x16.fKind == a1) && (x16.fCore == a2)) ( Rec2 ((mx s1.1 0),0,(IntKind.i64.wrap (s1.2.2 + 1)))) ( Rec2 ((mx s1.1 (IntKind.i64.wrap (s1.2.1 + 1))),(IntKind.i64.wrap (s1.2.1 + 1)),(IntKind.i64.wrap (s1.2.2 + 1))))) ( K s1.1)
def sh_fair_Longest (a0:Sl) (a1:Int) (a2:Int) (K:Int→Hp→Prop):Hp→Prop:=Lp (qW a0 a1 a2 K) (0,0,0)
theorem sim_fair_Longest (a0:Sl) (a1:Int) (a2:Int) {K:Int→Hp→Prop} {h:Hp} (H:sh_fair_Longest a0 a1 a2 K h):Ct Tryz.prog oD #[(sv a0),(.int .i64 a1),(.int .i64 a2)] h fun v h'=>∃ r,v = eo r∧K r h':=aw [(sv a0),(.int .i64 a1),(.int .i64 a2)] Tryz.func90 c c c fun _=>M<|O c<|M<|p (aq c)<|O c<|aj<|M<|J c<|p (dv c Tryz.underlying59 c)<|J c<|ac<|ax<|bB (step:=qW a0 a1 a2 K) (fun s1=>[(1,(.int .i64 a1)),(2,(.int .i64 a2)),(7,(.int .i64 s1.1)),(8,(.int .i64 s1.2.1)),(11,(sv a0)),(12,(.int .i64 (a0.len:Int))),(13,(.int .i64 s1.2.2))]) (fun s1=>[]) H (.cons c<|.cons c<|.cons c<|.cons c<|.cons c<|.cons c<|.cons c<|.nil _) .slnil fun Rec2 s1 _ H3=>M<|p (cm c c)<|ac<|aj<|av c H3 (fun k4 H5=>am<|aj<|ax<|M<|cg H5 fun q15 e6 h7 H8=>p (bm slc_59 (aL c<|aY e6) c h7)<|aa<|gD H8 ag_63 c (fun _=>c) c fun x16 H9=>aa<|aI (l:=dL.C (⟨0,0,0,(⟨0,0,0,0,0⟩:ah),0,0⟩:dL)) zero_63 c c fun b10=>aa<|aN (k:=0) (vs:=dL.C x16) inf_63 c c c c c c c<|ac<|M<|J c<|p (bt c c)<|O c<|aj<|M<|p (ad fld_63_0 c)<|bg (bd (k:=0) aW c c c) c<|J c<|p (bK c c)<|J c<|V c c (ay _) (fun g10=>wv<|ad fld_63_1 c)<|V c c (ay _) (fun g11=>cv<|bd (k:=0) aW (aB c g11) c c)<|V c c (ay _) (fun g12=>wv<|ae c)<|V c c (ay _) (fun g13=>wv<|bK (aB c g13)<|aB c g13)<|p (bM c c)<|ac<|av c H9 (fun k14 H15=>ap<|O c<|ap<|J c<|J c<|p (v_maxT c c)<|O c<|ap<|p (bt c c)<|J c<|ac<|cF ((mx s1.1 0),0,(IntKind.i64.wrap (s1.2.2 + 1))) H15 (.cons c<|.cons c<|.cons c<|.cons c<|.cons c<|.cons c<|.cons c<|.nil _)<|.cons _ .slnil) fun k14 H15=>am<|ap<|J c<|J c<|p (v_maxT c c)<|O c<|ap<|p (bt c c)<|J c<|ac<|cF ((mx s1.1 (IntKind.i64.wrap (s1.2.1 + 1))),(IntKind.i64.wrap (s1.2.1 + 1)),(IntKind.i64.wrap (s1.2.2 + 1))) H15 (.cons c<|.cons c<|.cons c<|.cons c<|.cons c<|.cons c<|.cons c<|.nil _)<|.cons _ .slnil) fun k4 H5=>bh<|M<|J c<|O c<|ag<|Y ⟨s1.1,c,H5⟩
def wS (a0:Sl) (a1:Int) (a2:Int) (K:Bool→Hp→Prop) (Rec2:Int→Hp→Prop) (s1:Int):Hp→Prop:=br (decide (s1 < a1)) ( cl Tryz.prog oD [(sv a0),(.int .i64 2),(.int .i64 s1)] eo fun r14=>br (!(decide (r14 ≥ a2))) ( cl Tryz.prog oD [(sv a0),(.int .i64 3),(.int .i64 s1)] eo fun r20=>br (decide (r20 ≥ a2)) ( K false) ( Rec2 (IntKind.i64.wrap (s1 + 1)))) ( K false)) ( K true)
def sh_fair_Fair (a0:Sl) (a1:Int) (a2:Int) (K:Bool→Hp→Prop):Hp→Prop:=Lp (wS a0 a1 a2 K) 0
theorem sim_fair_Fair (a0:Sl) (a1:Int) (a2:Int) {K:Bool→Hp→Prop} {h:Hp} (H:sh_fair_Fair a0 a1 a2 K h):Ct Tryz.prog n_fair_Fair #[(sv a0),(.int .i64 a1),(.int .i64 a2)] h fun v h'=>∃ r,v = az r∧K r h':=aw [(sv a0),(.int .i64 a1),(.int .i64 a2)] Tryz.func44 c c c fun _=>M<|O c<|aj<|M<|J c<|J c<|ac<|ax<|bB (step:=wS a0 a1 a2 K) (fun s1=>[(0,(sv a0)),(2,(.int .i64 a2)),(8,(.int .i64 a1)),(9,(.int .i64 s1))]) (fun s1=>[]) H (.cons c<|.cons c<|.cons c<|.cons c<|.nil _) .slnil fun Rec2 s1 _ H3=>M<|p (cm c c)<|ac<|aj<|av c H3 (fun k4 H5=>am<|aj<|ax<|M<|J c<|O c<|M<|J c<|J c<|aa<|D H5 en_90 fun r14 _ H6=>J c<|p (jy c c)<|J c<|V c c (aK _) (fun g7=>wv<|ae c)<|V c c (aK _) (fun g8=>wv<|ae c)<|bP H6 (fun k10 H11=>G (Z<|bS k10)<|fT H11 en_90 (aS (aB c k10)<|aS c<|aS (aB c k10) bO) c fun r20 _ H12=>G (Z<|bS k10)<|z_p (ae c)<|G (Z<|bS k10)<|z_p (jy c c)<|p (an c (bS k10) c)<|ac<|av c H12 (fun k13 H14=>M<|O c<|ag<|Y ⟨false,c,H14⟩) fun k13 H14=>am<|ap<|p (bt c c)<|J c<|ac<|cF (IntKind.i64.wrap (s1 + 1)) H14 (.cons c<|.cons c<|.cons c<|.cons c<|.nil _) .slnil) fun k10 H11=>W (bF<|bz k10)<|W (bF<|bz k10)<|W (bF<|bz k10)<|p (aM c (bz k10) c)<|ac<|lq c c<|M<|O c<|ag<|Y ⟨false,c,H11⟩) fun k4 H5=>bh<|M<|O c<|ag<|Y ⟨true,c,H5⟩
end Go.Proofs.YtmggcfijlpldpaaGreatDoor
namespace Go.Proofs.YtmggcfijlpldpaaGreatDoor
open Go Mb
abbrev Pick:=dL
abbrev vK (s:Sl) (xs:List Pick):As:=vec t_api_Pick 10 dL.C s xs
theorem pick_len (p:Pick):p.C.length = 10:=rfl
theorem pick_one (p:Pick):dC p.C = true:=rfl
namespace Fair
def longFrom (kind core:Int):List Pick→Int→Int→Int
  | [],best,_=>best
  | p::ps,best,now=>if p.fKind = kind∧p.fCore = core then longFrom kind core ps (mx best 0) 0 else longFrom kind core ps (mx best (IntKind.i64.wrap (now + 1))) (IntKind.i64.wrap (now + 1))
def longest (ps:List Pick) (kind core:Int):Int:=longFrom kind core ps 0 0
def okCore (ps:List Pick) (b:Int) (c:Nat):Bool:=decide (longest ps 2 c < b) && decide (longest ps 3 c < b)
def fair (ps:List Pick) (cores b:Int):Bool:=(List.range cores.toNat).all (okCore ps b)
def pk (kind:Int) (c:Nat):Pick:=⟨kind,c,0,⟨0,0,0,0,0⟩,0,0⟩
def line (kind:Int) (c:Nat):List Pick:=(List.range c).map (pk kind)
def lines (c:Nat) (kinds:List Int):List Pick:=kinds.flatMap fun k=>line k c
def turns (c n:Nat):List Pick:=(List.range n).flatMap fun _=>lines c [3,2]
def rounds (cores n:Int):List Pick:=if cores < 1∨cores > 8∨n < 0∨n > 500 then [] else turns cores.toNat n.toNat
theorem line_len (kind:Int) (c:Nat):(line kind c).length = c:=by simp [line]
theorem line_succ (kind:Int) (c:Nat):line kind (c + 1) = line kind c++[pk kind c]:=by simp [line,List.range_succ]
theorem turns_succ (c n:Nat):turns c (n + 1) = turns c n++lines c [3,2]:=by simp [turns,List.range_succ]
theorem lines_len (c:Nat):∀ (ks:List Int),(lines c ks).length = ks.length * c
  | []=>by simp [lines]
  | k::ks=>by
    have:=lines_len c ks
    simp only [lines,List.flatMap_cons,List.length_append,line_len,List.length_cons,Nat.succ_mul] at this ⊢
    omega
theorem turns_len (c n:Nat):(turns c n).length = n * (2 * c):=by
  induction n with
  | zero=>simp [turns]
  | succ n ih=>rw [turns_succ,List.length_append,ih,lines_len,Nat.add_mul n 1,Nat.one_mul]; rfl
end Fair
theorem sp_fair_Longest (s:Sl) (ps:List Pick) (kind core:Int) (hb:ps.length < 2 ^ 40):Sp Tryz.prog oD [sv s,.int .i64 kind,.int .i64 core] eo [vK s ps] (fun r=>pa_ (r = Fair.longest ps kind core) [vK s ps]):=by
  intro h s0
  have hl:=(cd (j:=0) s0 rfl).1
  refine sim_fair_Longest _ _ _ ?_
  unfold sh_fair_Longest
  refine Lp.intro (fun (z:Int × Int × Int) h=>∃ n:Nat,z.2.2 = n∧n ≤ ps.length∧Fair.longFrom kind core (ps.drop n) z.1 z.2.1 = Fair.longest ps kind core∧aE [vK s ps] h) (fun (z:Int × Int × Int) _=>ps.length - z.2.2.toNat) ⟨0,rfl,Nat.zero_le _,rfl,s0⟩ ?_
  rintro ⟨best,now,i⟩ h ⟨n,rfl,hn,he,s1⟩
  unfold qW
  simp only at he ⊢
  refine aV (fun k=>?_) (fun k=>?_)
  · have hlt:n < ps.length:=by rw [hl] at k; simpa using k
    have hw:IntKind.i64.wrap ((n:Int) + 1) = ((n + 1:Nat):Int):=by rw [bR (by omega) (by omega)]; rfl
    rw [List.drop_eq_getElem_cons hlt,Fair.longFrom] at he
    refine du s1 (j:=0) rfl (by omega) (by omega) fun q hq=>?_
    refine ef (j:=0) (i:=n) (k:=0) ps[n] pick_len s1 rfl hq rfl (aD hlt) (by simp) ?_
    rw [hw]
    refine aV (fun k2=>?_) (fun k2=>?_)
    · have k2':ps[n].fKind = kind∧ps[n].fCore = core:=by simpa using k2
      rw [if_pos k2'] at he
      exact ⟨⟨n + 1,rfl,hlt,he,s1⟩,by simp; omega⟩
    · have k2':¬ (ps[n].fKind = kind∧ps[n].fCore = core):=by simpa using k2
      rw [if_neg k2'] at he
      exact ⟨⟨n + 1,rfl,hlt,he,s1⟩,by simp; omega⟩
  · have:n = ps.length:=by rw [hl] at k; simp at k; omega
    subst this
    rw [List.drop_length] at he
    exact aU he s1
theorem sp_fair_Fair (s:Sl) (ps:List Pick) (cores b:Int) (hb:ps.length < 2 ^ 40) (hc:cores < 2 ^ 62):Sp Tryz.prog n_fair_Fair [sv s,.int .i64 cores,.int .i64 b] az [vK s ps] (fun r=>pa_ (r = Fair.fair ps cores b) [vK s ps]):=by
  intro h s0
  refine sim_fair_Fair _ _ _ ?_
  unfold sh_fair_Fair
  refine Lp.intro (fun (i:Int) h=>∃ n:Nat,i = n∧n ≤ cores.toNat∧(∀ c,c < n→Fair.okCore ps b c = true)∧aE [vK s ps] h) (fun (i:Int) _=>cores.toNat - i.toNat) ⟨0,rfl,Nat.zero_le _,fun c hc=>by omega,s0⟩ ?_
  rintro i h ⟨n,rfl,hn,ho,s1⟩
  unfold wS
  refine aV (fun k=>?_) (fun k=>?_)
  · have hlt:n < cores.toNat:=by have:=of_decide_eq_true k; omega
    have hw:IntKind.i64.wrap ((n:Int) + 1) = ((n + 1:Nat):Int):=by rw [bR (by omega) (by omega)]; rfl
    have no:Fair.okCore ps b n = false→Fair.fair ps cores b = false:=fun hf=>by
      unfold Fair.fair
      cases ha:(List.range cores.toNat).all (Fair.okCore ps b) with
      | false=>rfl
      | true=>rw [List.all_eq_true.1 ha n (List.mem_range.2 hlt)] at hf; cases hf
    refine bH (sp_fair_Longest s ps 2 n hb) (i:=0) rfl s1 fun r h2 hr s2=>?_
    subst hr
    refine aV (fun k2=>?_) (fun k2=>?_)
    · have k2':Fair.longest ps 2 n < b:=by simpa using k2
      refine bH (sp_fair_Longest s ps 3 n hb) (i:=0) rfl s2 fun r h3 hr s3=>?_
      subst hr
      refine aV (fun k3=>?_) (fun k3=>?_)
      · have k3':¬ Fair.longest ps 3 n < b:=by simp at k3; omega
        exact aU (no (by simp [Fair.okCore,k3'])).symm s3
      · have k3':Fair.longest ps 3 n < b:=by simp at k3; omega
        rw [hw]
        refine ⟨⟨n + 1,rfl,hlt,fun c hc=>?_,s3⟩,by simp; omega⟩
        by_cases e:c = n
        · subst e; simp [Fair.okCore,k2',k3']
        · exact ho c (by omega)
    · have k2':¬ Fair.longest ps 2 n < b:=by simp at k2; omega
      exact aU (no (by simp [Fair.okCore,k2'])).symm s2
  · have:n = cores.toNat:=by have:=of_decide_eq_false k; omega
    subst this
    refine aU ?_ s1
    unfold Fair.fair
    exact (List.all_eq_true.2 fun c hc=>ho c (List.mem_range.1 hc)).symm
theorem sp_fair_Rounds (cores n:Int):Sp Tryz.prog uB [.int .i64 cores,.int .i64 n] nM [] (fun r=>aE [vK r (Fair.rounds cores n)]):=by
  intro h s0
  refine sim_fair_Rounds _ _ ?_
  unfold sh_fair_Rounds
  refine aV (fun k=>?_) (fun k=>?_)
  · have e1:Fair.rounds cores n = []:=if_pos (by simpa [or_assoc] using k)
    rw [e1]; exact fC s0
  · have k':¬ (cores < 1∨cores > 8∨n < 0∨n > 500):=by simp at k; omega
    have e1:Fair.rounds cores n = Fair.turns cores.toNat n.toNat:=if_neg k'
    rw [e1]
    obtain ⟨C,rfl⟩:=Int.eq_ofNat_of_zero_le (show 0 ≤ cores by omega)
    obtain ⟨N,rfl⟩:=Int.eq_ofNat_of_zero_le (show 0 ≤ n by omega)
    simp only [Int.toNat_natCast]
    refine fh (τ:=Pick) [] (val:=fun x=>.agg x.C.toArray) (enc:=dL.C) el_Sapi_Pick pick_len (fun _=>rfl) s0 rfl rfl (by simp) fun v h1 s1=>?_
    refine Lp.intro (fun (z:Sl × Int) h=>∃ j:Nat,z.2 = j∧j ≤ N∧aE [vK z.1 (Fair.turns C j)] h) (fun (z:Sl × Int) _=>N - z.2.toNat) ⟨0,rfl,Nat.zero_le _,s1⟩ ?_
    rintro ⟨z,i⟩ h ⟨j,rfl,hj,s2⟩
    unfold tc
    refine aV (fun k2=>?_) (fun k2=>?_)
    · have hlt:j < N:=by have:=of_decide_eq_true k2; simp at this; exact this
      have hw:IntKind.i64.wrap ((j:Int) + 1) = ((j + 1:Nat):Int):=by rw [bR (by omega) (by omega)]; rfl
      have htl:=Fair.turns_len C j
      have hC:C ≤ 8:=by omega
      have hjb:j * (2 * C) ≤ 500 * 16:=Nat.mul_le_mul (by omega) (by omega)
      refine fh (τ:=Int) [3,2] (val:=fun x=>.int .i64 x) (enc:=cI .i64) el_Sint (cW _) (fun _=>rfl) s2 rfl rfl (by decide) fun vk h3 s3=>?_
      have hvl:=(cd (j:=0) s3 rfl).1
      refine Lp.intro (fun (y:Sl × Int) h=>∃ m:Nat,y.2 = m∧m ≤ 2∧aE [vK y.1 (Fair.turns C j++Fair.lines C (([3,2]:List Int).take m)),vec kE 1 (cI .i64) vk [3,2]] h) (fun (y:Sl × Int) _=>2 - y.2.toNat) ⟨0,rfl,Nat.zero_le _,by
        have s4:=ba (m:=[vK z (Fair.turns C j),vec kE 1 (cI .i64) vk [3,2]]) [1] s3 rfl
        simpa [Fair.lines] using s4⟩ ?_
      rintro ⟨y,i2⟩ h ⟨m,rfl,hm,s4⟩
      unfold tb
      refine aV (fun k3=>?_) (fun k3=>?_)
      · have hlt2:m < 2:=by rw [hvl] at k3; have:=of_decide_eq_true k3; simp at this; omega
        have hw2:IntKind.i64.wrap ((m:Int) + 1) = ((m + 1:Nat):Int):=by rw [bR (by omega) (by omega)]; rfl
        have hkl:m < ([3,2]:List Int).length:=hlt2
        refine du s4 (j:=1) rfl (by omega) (by simp; omega) fun q hq=>?_
        refine ef (j:=1) (i:=m) (k:=0) ([3,2]:List Int)[m] (cW _) s4 rfl hq (by simp) (aD hkl) (by simp) ?_
        have hll:=Fair.lines_len C (([3,2]:List Int).take m)
        have hlb:(([3,2]:List Int).take m).length * C ≤ 2 * 8:=Nat.mul_le_mul (by simp; omega) (by omega)
        refine Lp.intro (fun (x:Sl × Int) h=>∃ p:Nat,x.2 = p∧p ≤ C∧aE [vK x.1 (Fair.turns C j++Fair.lines C (([3,2]:List Int).take m)++Fair.line ([3,2]:List Int)[m] p),vec kE 1 (cI .i64) vk [3,2]] h) (fun (x:Sl × Int) _=>C - x.2.toNat) ⟨0,rfl,Nat.zero_le _,by simpa [Fair.line] using s4⟩ ?_
        rintro ⟨x,i3⟩ h ⟨p,rfl,hp,s5⟩
        have hpl:=Fair.line_len ([3,2]:List Int)[m] p
        unfold ta
        refine aV (fun k4=>?_) (fun k4=>?_)
        · have hlt3:p < C:=by have:=of_decide_eq_true k4; simp at this; exact this
          have hw3:IntKind.i64.wrap ((p:Int) + 1) = ((p + 1:Nat):Int):=by rw [bR (by omega) (by omega)]; rfl
          refine kj (τ:=Pick) (i:=0) (enc:=dL.C) (val:=fun x=>.agg x.C.toArray) (x:=Fair.pk ([3,2]:List Int)[m] p) el_Sapi_Pick pick_len pick_one (fun _=>rfl) (by omega) rfl rfl s5 rfl (by simp only [List.length_append]; omega) (by simp only [List.length_append]; omega) fun v h6 s6=>?_
          rw [hw3]
          refine ⟨⟨p + 1,rfl,hlt3,?_⟩,by simp; omega⟩
          rw [Fair.line_succ,← List.append_assoc]
          exact s6
        · have:p = C:=by have:=of_decide_eq_false k4; simp at this; omega
          subst this
          rw [hw2]
          refine ⟨⟨m + 1,rfl,hlt2,?_⟩,by simp; omega⟩
          have et:([3,2]:List Int).take (m + 1) = ([3,2]:List Int).take m++[([3,2]:List Int)[m]]:=by rw [List.take_add_one,aD hkl]; rfl
          have el:Fair.lines p (([3,2]:List Int).take (m + 1)) = Fair.lines p (([3,2]:List Int).take m)++Fair.line ([3,2]:List Int)[m] p:=by
            rw [et]; unfold Fair.lines; rw [List.flatMap_append]; simp
          rw [el,← List.append_assoc]
          exact s5
      · have:m = 2:=by rw [hvl] at k3; have:=of_decide_eq_false k3; simp at this; omega
        subst this
        rw [hw]
        refine ⟨⟨j + 1,rfl,hlt,?_⟩,by simp; omega⟩
        rw [Fair.turns_succ]
        exact np (l:=[vK y (Fair.turns C j++Fair.lines C [3,2])]) s4
    · have:j = N:=by have:=of_decide_eq_false k2; simp at this; omega
      subst this
      exact s2
end Go.Proofs.YtmggcfijlpldpaaGreatDoor
namespace Go.Proofs.YtmggcfijlpldpaaGreatDoor
open Go Mb
set_option linter.unusedVariables false
def vR (a0:Sl) (a1:Int) (K:Sl→Hp→Prop) (Rec2:(Sl × Int)→Hp→Prop) (s1:Sl × Int):Hp→Prop:=br (decide (s1.2 < (a0.len:Int))) ( ix a0 s1.2 fun q12=>ld (q12.1,q12.2 + Int.toNat s1.2 * 16) ar.C fun x13=>br ((x13.fEnv == a1) && (decide (x13.fEnd > 0))) ( hpv Tryz.prog (Instr.buildSlice mv 1 #[(0,(.agg (ab.C x13.fAnswer).toArray))]) mF fun (v26:Sl)=>hpv Tryz.prog (Builtin.append_ #[mv,mv] mv #[(sv s1.1),(sv v26)]) mF fun (v27:Sl)=>Rec2 (v27,(IntKind.i64.wrap (s1.2 + 1)))) ( Rec2 (s1.1,(IntKind.i64.wrap (s1.2 + 1))))) ( K s1.1)
def sh_twin_View (a0:Sl) (a1:Int) (K:Sl→Hp→Prop):Hp→Prop:=Lp (vR a0 a1 K) ((⟨none,0,0,none⟩:Sl),0)
theorem sim_twin_View (a0:Sl) (a1:Int) {K:Sl→Hp→Prop} {h:Hp} (H:sh_twin_View a0 a1 K h):Ct Tryz.prog n_twin_View #[(sv a0),(.int .i64 a1)] h fun v h'=>∃ r,v = mF r∧K r h':=aw [(sv a0),(.int .i64 a1)] Tryz.func30 c c c fun _=>M<|O c<|M<|O c<|aj<|M<|J c<|p (dv c Tryz.underlying43 c)<|J c<|ac<|ax<|bB (step:=vR a0 a1 K) (fun s1=>[(1,(.int .i64 a1)),(5,(sv s1.1)),(8,(sv a0)),(9,(.int .i64 (a0.len:Int))),(10,(.int .i64 s1.2))]) (fun s1=>[]) H (.cons c<|.cons c<|.cons c<|.cons c<|.cons c<|.nil _) .slnil fun Rec2 s1 _ H3=>M<|p (cm c c)<|ac<|aj<|av c H3 (fun k4 H5=>am<|aj<|ax<|M<|cg H5 fun q12 e6 h7 H8=>p (bm qL (aL c<|aY e6) c h7)<|aa<|gD H8 ul c (fun _=>c) c fun x13 H9=>aa<|aI (l:=ar.C (⟨0,0,(⟨0,0,0,0,0⟩:ah),0,0,0,(⟨0,0⟩:ab),(⟨0,0,0,0⟩:ak)⟩:ar)) tv c c fun b7=>aa<|aN (k:=0) (vs:=ar.C x13) inf_54 c c c c c c c<|ac<|M<|p (ad oK c)<|bg (bd (k:=0) aW c c c) c<|J c<|p (bK c c)<|J c<|V c c (ay _) (fun g10=>wv<|ad qC c)<|V c c (ay _) (fun g11=>cv<|bd (k:=0) aW (aB c g11) c c)<|V c c (ay _) (fun g12=>wv<|qi (aB c g12) c)<|p (bM c c)<|ac<|av c H9 (fun k13 H14=>ap<|J c<|p (ad jX c)<|bg (bA (k:=0) cx c c c c) c<|aa<|aR H14 (bp (vs:=[(.agg (ab.C x13.fAnswer).toArray)]) c) c fun v26 _ H15=>aa<|aR H15 (dA c c) c fun v27 _ H16=>O c<|ap<|p (bt c c)<|J c<|ac<|cF (v27,(IntKind.i64.wrap (s1.2 + 1))) H16 (.cons c<|.cons c<|.cons c<|.cons c<|.cons c<|.nil _)<|.cons _ .slnil) fun k13 H14=>am<|ap<|p (bt c c)<|J c<|ac<|cF (s1.1,(IntKind.i64.wrap (s1.2 + 1))) H14 (.cons c<|.cons c<|.cons c<|.cons c<|.cons c<|.nil _)<|.cons _ .slnil) fun k4 H5=>bh<|M<|J c<|O c<|ag<|Y ⟨s1.1,c,H5⟩
end Go.Proofs.YtmggcfijlpldpaaGreatDoor
namespace Go.Proofs.YtmggcfijlpldpaaGreatDoor
open Go Mb
abbrev vA (s:Sl) (xs:List eW):As:=vec nR 2 ab.C s xs
theorem ans_len (p:eW):p.C.length = 2:=rfl
theorem ans_one (p:eW):dC p.C = true:=rfl
namespace Twin
def view (env:Int):List bQ→List eW
  | []=>[]
  | e::es=>if e.fEnv = env∧e.fEnd > 0 then e.fAnswer::view env es else view env es
def same:List eW→List eW→Bool
  | [],[]=>true
  | a::l,b::r=>ab.eqb a b && same l r
  | _,_=>false
theorem view_app (env:Int) (e:bQ):∀ es,view env (es++[e]) = view env es++(if e.fEnv = env∧e.fEnd > 0 then [e.fAnswer] else [])
  | []=>by simp only [List.nil_append,view]
  | d::es=>by
    simp only [List.cons_append,view,view_app env e es]
    split <;> simp
theorem view_len (env:Int):∀ es,(view env es).length ≤ es.length
  | []=>Nat.le_refl _
  | e::es=>by unfold view; have:=view_len env es; split <;> simp <;> omega
end Twin
theorem sp_twin_View (s:Sl) (es:List bQ) (env:Int) (hb:es.length < 2 ^ 38):Sp Tryz.prog n_twin_View [sv s,.int .i64 env] mF [vE s es] (fun r=>aE [vA r (Twin.view env es),vE s es]):=by
  intro h s0
  have hl:=(cd (j:=0) s0 rfl).1
  refine sim_twin_View _ _ ?_
  unfold sh_twin_View
  refine Lp.intro (fun (z:Sl × Int) h=>∃ n:Nat,z.2 = n∧n ≤ es.length∧aE [vA z.1 (Twin.view env (es.take n)),vE s es] h) (fun (z:Sl × Int) _=>es.length - z.2.toNat) ⟨0,rfl,Nat.zero_le _,fC s0⟩ ?_
  rintro ⟨z,i⟩ h ⟨n,rfl,hn,s1⟩
  unfold vR
  refine aV (fun k=>?_) (fun k=>?_)
  · have hlt:n < es.length:=by rw [hl] at k; simpa using k
    have hw:IntKind.i64.wrap ((n:Int) + 1) = ((n + 1:Nat):Int):=by rw [bR (by omega) (by omega)]; rfl
    have ht:es.take (n + 1) = es.take n++[es[n]]:=by simp
    refine du s1 (j:=1) rfl (by omega) (by show (n:Int) < _; omega) fun q hq=>?_
    refine ef (j:=1) (i:=n) (k:=0) es[n] mi s1 rfl hq rfl (aD hlt) (by simp) ?_
    rw [hw]
    refine aV (fun k2=>?_) (fun k2=>?_)
    · have k2':es[n].fEnv = env∧es[n].fEnd > 0:=by simpa using k2
      have hvl:=Twin.view_len env (es.take n)
      simp at hvl
      refine kj (τ:=eW) (i:=0) (enc:=ab.C) (val:=fun x=>.agg x.C.toArray) el_Sapi_Answer ans_len ans_one (fun _=>rfl) (by omega) rfl rfl s1 rfl (by omega) (by omega) fun v h2 s2=>?_
      refine ⟨⟨n + 1,rfl,hlt,?_⟩,by simp; omega⟩
      rw [ht,Twin.view_app,if_pos k2']
      exact s2
    · have k2':¬ (es[n].fEnv = env∧es[n].fEnd > 0):=by simpa using k2
      refine ⟨⟨n + 1,rfl,hlt,?_⟩,by simp; omega⟩
      rw [ht,Twin.view_app,if_neg k2',List.append_nil]
      exact s1
  · have:n = es.length:=by rw [hl] at k; simp at k; omega
    subst this
    rw [List.take_length] at s1
    exact s1
end Go.Proofs.YtmggcfijlpldpaaGreatDoor
namespace Go.Proofs.YtmggcfijlpldpaaGreatDoor
open Go Mb
variable {ET:Nat} {EF:Nat × Nat}
theorem kern_nn {l:List As} {h:Hp} {x:Ptr} {k:KK} (s:aE (co x k::l) h):x.isNone = false:=nn_of (fun _ e=>by rw [e.1]; rfl) s
namespace B16
abbrev sz:lx:=⟨2,2,3⟩
def r1:=KK.run (KK.new ⟨2,2,3⟩) 0 0 ⟨1,1,0,0,0⟩
def r2:=KK.run r1.2 0 0 ⟨6,4,1,3,0⟩
def r3:=KK.run r2.2 1 0 ⟨21,4,2,9,0⟩
def r4:=KK.run r3.2 0 0 ⟨20,4,2,0,0⟩
def r5:=KK.run r4.2 0 0 ⟨7,4,0,0,0⟩
def es:=r5.2.events
theorem es_len:es.length = 5:=by kernel_rfl
theorem apart:Hist.may es sz = true:=by kernel_rfl
theorem now1:r1.2.now < 1000:=of_decide_eq_true (by kernel_rfl)
theorem now2:r2.2.now < 1000:=of_decide_eq_true (by kernel_rfl)
theorem now3:r3.2.now < 1000:=of_decide_eq_true (by kernel_rfl)
theorem now4:r4.2.now < 1000:=of_decide_eq_true (by kernel_rfl)
theorem now5:r5.2.now < 1000:=of_decide_eq_true (by kernel_rfl)
theorem lin:Judge.linear es sz = (-1,true):=by kernel_rfl
theorem acc:Judge.accesses es sz = (-1,true):=by kernel_rfl
theorem rgt:Judge.right es sz = true:=by kernel_rfl
end B16
theorem ord20 {es:List bQ} (s:Sl) (h:es.length ≤ 20):Hist.Apart es→OrdOk s es:=fun ha=>sp_hist_Order20 s es h ha
theorem sp_begun16:Sp Tryz.prog kr [] az [(etB ET EF)] (fun r=>pa_ (r = true) [(etB ET EF)]):=by
  intro h st
  refine uN ?_
  unfold oe
  refine lT (sp_kern_New ⟨2,2,3⟩ (by decide)) st fun x h1 s1=>?_
  refine cZ (kern_nn s1) ?_
  refine bH (i:=0) (sp_Run x _ 0 0 ⟨1,1,0,0,0⟩ (by decide)) rfl s1 fun a1 h2 e1 s2=>?_
  refine bH (i:=0) (sp_Run x B16.r1.2 0 0 ⟨6,4,1,3,0⟩ (by have:=B16.now1; omega)) rfl s2 fun a2 h3 e2 s3=>?_
  refine bH (i:=0) (sp_Run x B16.r2.2 1 0 ⟨21,4,2,9,0⟩ (by have:=B16.now2; omega)) rfl s3 fun a3 h4 e3 s4=>?_
  refine bH (i:=0) (sp_Run x B16.r3.2 0 0 ⟨20,4,2,0,0⟩ (by have:=B16.now3; omega)) rfl s4 fun a4 h5 e4 s5=>?_
  refine bH (i:=0) (sp_Run x B16.r4.2 0 0 ⟨7,4,0,0,0⟩ (by have:=B16.now4; omega)) rfl s5 fun a5 h6 e5 s6=>?_
  refine vz (i:=0) (nV x B16.r5.2 (by have:=B16.now5; omega)) rfl s6 fun s h7 s7=>?_
  have hes:B16.es.length < 2 ^ 38:=by rw [B16.es_len]; decide
  have hes20:B16.es.length ≤ 20:=by rw [B16.es_len]; decide
  refine bH (i:=0) (sp_judge_Linear s B16.es B16.sz (by decide) hes (ord20 s hes20)) rfl s7 fun r1 h8 f1 s8=>?_
  refine bH (i:=0) (sp_judge_Access s B16.es B16.sz (by decide) hes (ord20 s hes20)) rfl s8 fun r2 h9 f2 s9=>?_
  refine lT (sp_fair_Rounds 2 3) s9 fun t h10 s10=>?_
  refine bH (i:=3) sp_Begun11 rfl s10 fun r3 h11 f3 s11=>?_
  have hl:((s.len:Int) == 5) = true:=by rw [(cd (j:=1) s11 rfl).1]; kernel_rfl
  have htl:((t.len:Int) == 12) = true:=by rw [(cd (j:=0) s11 rfl).1]; kernel_rfl
  have g1:a1 = B16.r1.1:=e1.1
  have g2:a2 = B16.r2.1:=e2.1
  have g3:a3 = B16.r3.1:=e3.1
  have g4:a4 = B16.r4.1:=e4.1
  have g5:a5 = B16.r5.1:=e5.1
  rw [B16.lin] at f1
  rw [B16.acc] at f2
  rw [f1,f2,f3,g1,g2,g3,g4,g5,hl]
  refine dc (by kernel_rfl) ?_
  refine bH (i:=1) (sp_hist_May s B16.es B16.sz hes) rfl s11 fun r4 h12 f4 s12=>?_
  refine dc (f4.trans B16.apart) ?_
  refine vz (i:=1) (sp_hist_Order20 s B16.es hes20 (Hist.may_apart B16.apart)) rfl s12 fun o h13 s13=>?_
  have hol:((o.len:Int) == 5) = true:=by rw [(cd (j:=0) s13 rfl).1]; kernel_rfl
  refine dc (by rw [hol,htl]; rfl) ?_
  refine bH (i:=1) (sp_fair_Fair t _ 2 5 (by decide) (by decide)) rfl s13 fun r5 h14 f5 s14=>?_
  refine dc (f5.trans (by kernel_rfl)) ?_
  refine vz (i:=2) (sp_twin_View s B16.es 0 hes) rfl s14 fun v h15 s15=>?_
  have hvl:((v.len:Int) == 5) = true:=by rw [(cd (j:=0) s15 rfl).1]; kernel_rfl
  refine dc hvl ?_
  refine bH (i:=3) (sp_judge_Right s B16.es B16.sz (by decide) hes (ord20 s hes20)) rfl s15 fun r6 h16 f6 s16=>?_
  exact aU (f6.trans B16.rgt) (bX (l:=[_,_,_,_,_]) s16)
end Go.Proofs.YtmggcfijlpldpaaGreatDoor
namespace Go.Proofs.YtmggcfijlpldpaaGreatDoor
open Go Mb
namespace KK
def lastE (c:Int):List bQ→bQ→bQ
  | [],e=>e
  | x::es,e=>lastE c es (if x.fCore = c then x else e)
def last (k:KK) (c:Int):bQ:=lastE c k.events ⟨0,0,⟨0,0,0,0,0⟩,0,0,0,⟨0,0⟩,⟨0,0,0,0⟩⟩
end KK
theorem field_ans (e:bQ) (K:Value→Hp→Prop) (h:Hp):hp Tryz.prog (Instr.field nk (.agg (ar.C e).toArray) 6) K h = K (eI e.fAnswer) h:=by kernel_rfl
theorem field_err (a:eW) (K:Value→Hp→Prop) (h:Hp):hp Tryz.prog (Instr.field nR (.agg (ab.C a).toArray) 0) K h = K (aZ a.fErr) h:=by kernel_rfl
theorem sp_last (x:Ptr) (k:KK) (c:Int) (hn:k.now < 2 ^ 37):Sp Tryz.prog iF [pv x,.int .i64 c] um [co x k] (fun r=>pa_ (r = KK.last k c) [co x k]):=by
  intro h st
  refine wl _ _ ?_
  unfold pf
  have n0:=kern_n0 st
  refine vz (i:=0) (nV x k (by omega)) rfl st fun v h1 s1=>?_
  have hl:=(cd (j:=0) s1 rfl).1
  have s1:aE [vE v k.events,co x k] h1:=s1
  refine Lp.intro (fun (z:Int × bQ) h=>∃ n:Nat,z.1 = n∧n ≤ k.events.length∧KK.lastE c (k.events.drop n) z.2 = KK.last k c∧aE [vE v k.events,co x k] h) (fun (z:Int × bQ) _=>k.events.length - z.1.toNat) ⟨0,rfl,Nat.zero_le _,rfl,s1⟩ ?_
  rintro ⟨i,e⟩ h2 ⟨n,rfl,hn2,he,s2⟩
  unfold kw
  simp only at he ⊢
  have n2:=n0.2
  refine aV (fun d=>?_) (fun d=>?_)
  · have hlt:n < k.events.length:=by rw [hl] at d; simpa using d
    have hw:IntKind.i64.wrap ((n:Int) + 1) = ((n + 1:Nat):Int):=by rw [bR (by omega) (by omega)]; rfl
    rw [List.drop_eq_getElem_cons hlt,KK.lastE] at he
    refine du s2 (j:=0) rfl (by omega) (by omega) fun q hq=>?_
    refine ef (j:=0) (i:=n) (k:=0) k.events[n] mi s2 rfl hq rfl (aD hlt) (by simp) ?_
    rw [hw]
    refine aV (fun d2=>?_) (fun d2=>?_)
    · rw [if_pos (by simpa using d2)] at he
      exact ⟨⟨n + 1,rfl,hlt,he,s2⟩,by simp; omega⟩
    · rw [if_neg (by simpa using d2)] at he
      exact ⟨⟨n + 1,rfl,hlt,he,s2⟩,by simp; omega⟩
  · have:n = k.events.length:=by rw [hl] at d; simp at d; omega
    subst this
    rw [List.drop_length] at he
    exact aU he (bX (l:=[_]) s2)
end Go.Proofs.YtmggcfijlpldpaaGreatDoor
namespace Go.Proofs.YtmggcfijlpldpaaGreatDoor
open Go Mb
variable {ET:Nat} {EF:Nat × Nat}
namespace Grant
abbrev sz:lx:=⟨2,2,2⟩
def r1:=KK.run (KK.new sz) 0 0 ⟨1,0,0,0,0⟩
def r2:=KK.run r1.2 1 1 ⟨1,0,0,0,0⟩
def to (b:Bool):Int:=if b then 0 else 3
def k1 (b:Bool):KK:=(KK.begin_ r2.2 0 0 ⟨3,0,1,to b,1⟩).2
def k2 (b:Bool):KK:=(KK.begin_ (k1 b) 1 1 ⟨3,0,0,to b,2⟩).2
def ka (b:Bool):KK:=(KK.step (k2 b) 0).2
def kb (b:Bool):KK:=(KK.step (k2 b) 1).2
def kab (b:Bool):KK:=(KK.step (ka b) 1).2
def kba (b:Bool):KK:=(KK.step (kb b) 0).2
inductive R (b:Bool):KK→Prop
  | r0:R b (k2 b)
  | ra:R b (ka b)
  | rb:R b (kb b)
  | rab:R b (kab b)
  | rba:R b (kba b)
theorem ea (b:Bool):(KK.step (k2 b) 0).2 = ka b:=by rw [ka]
theorem eb (b:Bool):(KK.step (k2 b) 1).2 = kb b:=by rw [kb]
theorem eab (b:Bool):(KK.step (ka b) 1).2 = kab b:=by rw [kab]
theorem eba (b:Bool):(KK.step (kb b) 0).2 = kba b:=by rw [kba]
def eY (b:Bool):Int:=if b then 4 else 0
def capsOk (b:Bool) (c d:Cap × Bool):Bool:=if b then !c.2 && !d.2 else c.2 && d.2 && (c.1.fRights == 1) && (d.1.fRights == 2) && (c.1.fEnv == 0) && (d.1.fEnv == 1)
def good (b:Bool) (k:KK):Bool:=(k.now < 1000) && (KK.settle 2 1000 k).1 && ((KK.settle 2 1000 k).2.now < 1000) && ((KK.last (KK.settle 2 1000 k).2 0).fAnswer.fErr == eY b) && ((KK.last (KK.settle 2 1000 k).2 1).fAnswer.fErr == eY b) && capsOk b (Caps.at_ (KK.settle 2 1000 k).2.p.caps 1 3) (Caps.at_ (KK.settle 2 1000 k).2.p.caps 0 3) && (Judge.right (KK.settle 2 1000 k).2.events sz) && ((KK.settle 2 1000 k).2.events.length ≤ 20)
theorem f1:(r1.1.2 && (r1.1.1.fErr == 0) && decide (r1.2.now < 1000) && r2.1.2 && (r2.1.1.fErr == 0) && decide (r2.2.now < 1000)) = true:=by kernel_rfl
theorem f2 (b:Bool):decide ((k1 b).now < 1000) = true:=by cases b <;> kernel_rfl
theorem g2 (b:Bool):good b (k2 b) = true:=by cases b <;> kernel_rfl
theorem ga (b:Bool):good b (ka b) = true:=by cases b <;> kernel_rfl
theorem gb (b:Bool):good b (kb b) = true:=by cases b <;> kernel_rfl
theorem gab (b:Bool):good b (kab b) = true:=by cases b <;> kernel_rfl
theorem gba (b:Bool):good b (kba b) = true:=by cases b <;> kernel_rfl
theorem idle (b:Bool):(KK.busy (ka b) 0 || KK.busy (kb b) 1 || KK.busy (kab b) 0 || KK.busy (kab b) 1 || KK.busy (kba b) 0 || KK.busy (kba b) 1) = false:=by cases b <;> kernel_rfl
theorem sc {k:KK} {c:Int} (h:KK.busy k c = false):(KK.step k c).2 = k:=by unfold KK.step; rw [if_pos h]
theorem R.good {b:Bool} {k:KK} (h:R b k):Grant.good b k = true:=by
  cases h with
  | r0=>exact g2 b
  | ra=>exact ga b
  | rb=>exact gb b
  | rab=>exact gab b
  | rba=>exact gba b
theorem R.step {b:Bool} {k:KK} (h:R b k) {c:Int} (hc:c = 0∨c = 1):R b (KK.step k c).2:=by
  have hi:=idle b
  simp only [Bool.or_eq_false_iff] at hi
  obtain ⟨⟨⟨⟨⟨i1,i2⟩,i3⟩,i4⟩,i5⟩,i6⟩:=hi
  rcases hc with rfl | rfl
  · cases h with
    | r0=>rw [ea]; exact .ra
    | ra=>rw [sc i1]; exact .ra
    | rb=>rw [eba]; exact .rba
    | rab=>rw [sc i3]; exact .rab
    | rba=>rw [sc i5]; exact .rba
  · cases h with
    | r0=>rw [eb]; exact .rb
    | ra=>rw [eab]; exact .rab
    | rb=>rw [sc i2]; exact .rb
    | rab=>rw [sc i4]; exact .rab
    | rba=>rw [sc i6]; exact .rba
theorem and_1 (x:Int):iand .i64 x 1 = 0∨iand .i64 x 1 = 1:=by
  unfold iand
  have h:(BitVec.ofInt 64 x &&& BitVec.ofInt 64 1).toNat ≤ 1:=by
    rw [BitVec.toNat_and]
    have:(BitVec.ofInt 64 1).toNat = 1:=by decide
    rw [this]
    exact Nat.and_le_right
  have h2:(BitVec.ofInt IntKind.i64.bits x &&& BitVec.ofInt IntKind.i64.bits 1).toNat ≤ 1:=h
  generalize (BitVec.ofInt IntKind.i64.bits x &&& BitVec.ofInt IntKind.i64.bits 1).toNat = n at h2
  rw [bR (by omega) (by omega)]
  omega
end Grant
open Grant in
theorem sp_RaceGrant (s:Sl) (xs:List Int) (b:Bool):Sp Tryz.prog lX [sv s,.bool b] az [etB ET EF,vI s xs] (fun r=>pa_ (r = true) [etB ET EF,vI s xs]):=by
  intro h st
  refine rJ _ _ ?_
  unfold kP
  refine bH (i:=0) sp_begun16 rfl st fun r h1 hr s1=>?_
  subst hr
  refine cZ rfl ?_
  refine lT (sp_kern_New ⟨2,2,2⟩ (by decide)) s1 fun x h2 s2=>?_
  refine cZ (kern_nn s2) ?_
  have s2:aE [co x (KK.new sz),etB ET EF,vI s xs] h2:=s2
  have hl:=(cd (j:=2) s2 rfl).1
  have f1:=f1
  simp only [Bool.and_eq_true,decide_eq_true_eq] at f1
  obtain ⟨⟨⟨⟨⟨a1,a2⟩,a3⟩,a4⟩,a5⟩,a6⟩:=f1
  have a2:=beq_iff_eq.1 a2
  have a5:=beq_iff_eq.1 a5
  have rest:∀ {h':Hp},aE [co x r2.2,etB ET EF,vI s xs] h'→dV s b (fun r=>pa_ (r = true) [etB ET EF,vI s xs]) x (to b) h':=by
    intro h3 s3
    unfold dV
    refine bH (i:=0) (uu x r2.2 0 0 ⟨3,0,1,to b,1⟩ (by omega)) rfl s3 fun _ h4 _ s4=>?_
    have f2:(k1 b).now < 1000:=of_decide_eq_true (f2 b)
    refine bH (i:=0) (uu x (k1 b) 1 1 ⟨3,0,0,to b,2⟩ (by omega)) rfl s4 fun _ h5 _ s5=>?_
    have s5:aE [co x (k2 b),etB ET EF,vI s xs] h5:=s5
    refine Lp.intro (fun (i:Int) h=>∃ (n:Nat) (k:KK),i = n∧n ≤ xs.length∧R b k∧aE [co x k,etB ET EF,vI s xs] h) (fun (i:Int) _=>xs.length - i.toNat) ⟨0,_,rfl,Nat.zero_le _,.r0,s5⟩ ?_
    rintro i h6 ⟨n,k,rfl,hn,hR,s6⟩
    have hg:=hR.good
    unfold Grant.good at hg
    simp only [Bool.and_eq_true,decide_eq_true_eq] at hg
    obtain ⟨⟨⟨⟨⟨⟨⟨e1,e2⟩,e3⟩,e4⟩,e5⟩,e6⟩,e7⟩,e8⟩:=hg
    unfold hU
    refine aV (fun c=>?_) (fun c=>?_)
    · have hc:n < xs.length∧n < 40:=by rw [hl] at c; simp at c; omega
      have hlt:=hc.1
      have hw:IntKind.i64.wrap ((n:Int) + 1) = ((n + 1:Nat):Int):=by rw [bR (by omega) (by omega)]; rfl
      refine du s6 (j:=2) rfl (by omega) (by omega) fun q hq=>?_
      refine ef (j:=2) (i:=n) (k:=0) xs[n] (cW _) s6 rfl hq rfl (aD hlt) (by simp) ?_
      refine bH (i:=0) (sp_kern_Step x k _ (by omega)) rfl s6 fun _ h7 _ s7=>?_
      rw [hw]
      exact ⟨⟨n + 1,_,rfl,hlt,hR.step (and_1 _),s7⟩,by simp; omega⟩
    · refine bH (i:=0) (sp_Settle x k 2 1000 (by decide) (Nat.le_refl _) (by omega)) rfl s6 fun r h7 hr s7=>?_
      have hr1:r = (KK.settle 2 1000 k).1:=hr.1
      rw [e2] at hr1
      subst hr1
      refine cZ rfl ?_
      have s7:aE [co x (KK.settle 2 1000 k).2,etB ET EF,vI s xs] h7:=s7
      generalize (KK.settle 2 1000 k).2 = k' at e3 e4 e5 e6 e7 e8 s7
      have fin:dU b (fun r=>pa_ (r = true) [etB ET EF,vI s xs]) x (eY b) h7:=by
        unfold dU
        refine bH (i:=0) (sp_last x k' 0 (by omega)) rfl s7 fun r h8 hr s8=>?_
        subst hr
        refine eu _ (field_ans _) (eu _ (field_err _) (dc (by rw [beq_iff_eq.1 e4]; simp) ?_))
        refine bH (i:=0) (sp_last x k' 1 (by omega)) rfl s8 fun r h9 hr s9=>?_
        subst hr
        refine eu _ (field_ans _) (eu _ (field_err _) (cZ (by rw [beq_iff_eq.1 e5]; simp) ?_))
        refine bH (i:=0) (sp_kern_Cap x k' 1 3) rfl s9 fun r1 h10 hr s10=>?_
        rw [← hr] at e6
        refine bH (i:=0) (sp_kern_Cap x k' 0 3) rfl s10 fun r2 h11 hr2 s11=>?_
        rw [← hr2] at e6
        refine vz (i:=0) (nV x k' (by omega)) rfl s11 fun v h12 s12=>?_
        refine bH (i:=0) (sp_judge_Right v k'.events sz (by decide) (by omega) (ord20 v e8)) rfl s12 fun r3 h13 hr3 s13=>?_
        rw [e7] at hr3
        subst hr3
        refine dc rfl ?_
        have s13:aE [vE v k'.events,co x k',etB ET EF,vI s xs] h13:=s13
        have out:pa_ (true = true) [etB ET EF,vI s xs] h13:=aU rfl (bX (l:=[_,_]) s13)
        unfold capsOk at e6
        cases b
        · simp only [Bool.false_eq_true,if_false,Bool.and_eq_true] at e6
          obtain ⟨⟨⟨⟨⟨c1,c2⟩,c3⟩,c4⟩,c5⟩,c6⟩:=e6
          refine cZ rfl (dc c1 (dc c2 (dc c3 (dc c4 (dc c5 ?_)))))
          rw [c6]; exact out
        · simp only [if_true,Bool.and_eq_true] at e6
          exact dc rfl (dc e6.1 (dc e6.2 out))
      cases b
      · exact cZ rfl fin
      · exact dc rfl fin
  refine Lp.intro (fun (i:Int) h=>(i = 0∧aE [co x (KK.new sz),etB ET EF,vI s xs] h)∨(i = 1∧aE [co x r1.2,etB ET EF,vI s xs] h)∨(i = 2∧aE [co x r2.2,etB ET EF,vI s xs] h)) (fun (i:Int) _=>2 - i.toNat) (.inl ⟨rfl,s2⟩) ?_
  rintro i h3 hi
  unfold hY
  rcases hi with ⟨rfl,s3⟩ | ⟨rfl,s3⟩ | ⟨rfl,s3⟩
  · refine dc (by decide) ?_
    refine bH (i:=0) (sp_Run x _ 0 0 ⟨1,0,0,0,0⟩ (by decide)) rfl s3 fun r h4 hr s4=>?_
    have hr1:r = r1.1:=hr.1
    have q1:r.2 = true:=(congrArg (fun z:eW × Bool=>z.2) hr1).trans a1
    have q2:r.1.fErr = 0:=(congrArg (fun z:eW × Bool=>z.1.fErr) hr1).trans a2
    refine cZ (by rw [q1,q2]; rfl) ?_
    have w1:IntKind.i64.wrap (0 + 1) = 1:=by kernel_rfl
    rw [w1]
    exact ⟨.inr (.inl ⟨rfl,s4⟩),by decide⟩
  · refine dc (by decide) ?_
    refine bH (i:=0) (sp_Run x r1.2 1 1 ⟨1,0,0,0,0⟩ (by omega)) rfl s3 fun r h4 hr s4=>?_
    have hr1:r = r2.1:=hr.1
    have q1:r.2 = true:=(congrArg (fun z:eW × Bool=>z.2) hr1).trans a4
    have q2:r.1.fErr = 0:=(congrArg (fun z:eW × Bool=>z.1.fErr) hr1).trans a5
    refine cZ (by rw [q1,q2]; rfl) ?_
    have w1:IntKind.i64.wrap (1 + 1) = 2:=by kernel_rfl
    rw [w1]
    exact ⟨.inr (.inr ⟨rfl,s4⟩),by decide⟩
  · refine cZ (by decide) ?_
    have q:=rest s3
    cases b
    · exact cZ rfl q
    · exact dc rfl q
end Go.Proofs.YtmggcfijlpldpaaGreatDoor
namespace Go.Proofs.YtmggcfijlpldpaaGreatDoor
open Go Mb Go.ChangeShapes Go.WideShapes Go.RowKit
theorem Tryz.own:ownKnob Tryz.prog.godebug = none:=by kernel_rfl
theorem Tryz.et:Tryz.prog.globalNamed "errors.errorType" = some 0:=by kernel_rfl
theorem Tryz.rt:(Tryz.prog.cutTypes.find? (·.1 == "internal/reflectlite.rtype")).map (·.2) = some rd:=by kernel_rfl
abbrev laid:List (String × DataW Unit) := [("errors.errorType",Rows.laid_errors_errorType)]
theorem block_of_laid {W:World} (h:laidMetH Tryz.prog laid W):∃ T F,W.heap[0]? = some (.cells #[rtV gg] T F):=by
  have h':laidMet Tryz.prog [] W∧handlesMet Tryz.prog laid W:=h
  obtain ⟨name,u,ty,e1,e2,e3,e4,e5⟩:=h'.2 _ (List.mem_singleton.2 rfl)
  have en:name = [101,114,114,111,114]:=(Option.some.inj e1).symm
  subst en
  obtain rfl:=Option.some.inj (Tryz.rt.symm.trans e2)
  have hm:ty ∈ (List.range 350).filter fun t=>Tryz.prog.rowNamed t [101,114,114,111,114]:=List.mem_filter.2 ⟨List.mem_range.2 (by rw [← g4]; exact e3),e4⟩
  rw [oneErr] at hm
  obtain rfl:=List.mem_singleton.1 hm
  have hh:typeHandle Tryz.prog 195 = .pointer (some ⟨4,195,none⟩):=by kernel_rfl
  rw [hh] at e5
  unfold World.var? at e5
  rw [Tryz.et] at e5
  simp only [Option.bind_some] at e5
  split at e5
  · rename_i cs T F hq
    cases e5
    exact ⟨T,F,hq⟩
  · cases e5
noncomputable def laidWorld (os:Os):World :=
  let w0:=World.holding Tryz.prog os ⟨#[],#[],[]⟩
  { w0 with heap:=w0.heap.modify 0 fun
      | .cells _ t frozen=>.cells #[rtV gg] t frozen
      | o=>o }
theorem laidWorld_met (os:Os) (args:Array Value):laidMetH Tryz.prog laid ((laidWorld os).forCall (fun _ _=>0) ⟨#[],args,[]⟩).memory :=
  laidMetH_of_parts (laidMet_nil _ _) (by kernel_rfl)
theorem keptBut_same {w w':World} {may:MemPlace→Prop} (h1:w'.os = w.os) (h2:w'.output = w.output) (h:∀ i,i < w.heap.size→w'.heap[i]? = w.heap[i]?):w.keptBut w' may:=by
  refine ⟨h1,h2,fun i hi=>?_⟩
  have:=(World.keptBut_refl w may).2.2 i hi
  rw [h i hi]
  exact this
def kindsB (P:Program) (fn:Func) (c:OpenClaim):Bool:=c.kinds == (if c.domain.isEmpty then [] else fn.params.toList.map fun t=>match P.underlying t with | some (.int k)=>some k | _=>none)
theorem joined_split {P:Program} {f:FuncId} {fn:Func} {s:ChangeSpec} {c:OpenClaim} (h1:(c.wf (OpenSpec.ofChange s) && laidOutB P && mapsRowed P) = true)
    (h2:(fn.params.all (P.readableRec ·) && namedTie P c.named s.vars && (c.stops == []) && (P.stops == []) && (c.knobs == []) && (P.stopKnobs == [])) = true)
    (h3:(c.inPlace == P.inPlace f) = true) (h4:(c.unfollowed == P.unfollowed f) = true) (h5:(c.recurses == P.recurses f) = true) (h6:(c.named == P.varsNamed f) = true)
    (h7:((c.maps == (fn.params.toList++s.plain.varTypes P).any (P.mapsRec ·)) && (c.ifaces == (fn.params.toList++s.plain.varTypes P).any (P.ifacesRec ·)) && (c.mapsOut == P.mapsAmong fn.resultTypes.toList) &&
  (c.loops == (fn.params.toList++s.plain.varTypes P).any (P.loopsFrom ·)) && (c.wideKeys == (fn.params.toList++s.plain.varTypes P++fn.resultTypes.toList).any (P.wideKeysFrom ·)) &&
  s.vars.all (P.varReadable ·) && fn.resultTypes.all (fun t=>P.readableRec t && decide (t < P.types.size)) && (c.ifacesOut == fn.resultTypes.toList.any (P.ifacesRec ·)) && (c.loopsOut == fn.resultTypes.toList.any (P.loopsFrom ·))) = true)
    (h8:(c.plainKeys == P.plainKeys) = true) (h9:(c.shortTexts.isNone && P.stopsHeard && P.mayEnter && (c.lifted == P.liftsFinal) && (P.make == some c.make) && kindsB P fn c && (c.pinned == c.pinnedBy) &&
  (c.veiled == (fn.params.toList++s.plain.varTypes P++fn.resultTypes.toList).any (P.veiledRec ·)) && c.veiledFits P fn.params.toList (fn.params.toList++s.plain.varTypes P++fn.resultTypes.toList)) = true):joinedFacts P f fn s c = true:=by
  unfold joinedFacts
  unfold kindsB at h9
  rw [Bool.and_eq_true] at h1 h2 h7 h9
  simp only [Bool.and_eq_true] at h1 h2 h7 h9
  obtain ⟨⟨a1,a2⟩,a3⟩:=h1
  obtain ⟨⟨⟨⟨⟨b1,b2⟩,b3⟩,b4⟩,b5⟩,b6⟩:=h2
  obtain ⟨⟨⟨⟨⟨⟨⟨⟨c1,c2⟩,c3⟩,c4⟩,c5⟩,c6⟩,c7⟩,c8⟩,c9⟩:=h7
  obtain ⟨⟨⟨⟨⟨⟨⟨⟨d1,d2⟩,d3⟩,d4⟩,d5⟩,d6⟩,d7⟩,d8⟩,d9⟩:=h9
  simp only [Bool.and_eq_true]
  exact ⟨⟨⟨⟨⟨⟨⟨⟨⟨⟨⟨⟨⟨⟨⟨⟨⟨⟨⟨⟨⟨⟨⟨⟨⟨⟨⟨⟨⟨⟨⟨a1,a2⟩,a3⟩,b1⟩,b2⟩,b3⟩,b4⟩,b5⟩,b6⟩,h3⟩,h4⟩,h5⟩,h6⟩,c1⟩,c2⟩,c3⟩,c4⟩,c5⟩,c6⟩,c7⟩,c8⟩,c9⟩,h8⟩,d1⟩,d2⟩,d3⟩,d4⟩,d5⟩,d6⟩,d7⟩,d8⟩,d9⟩
end Go.Proofs.YtmggcfijlpldpaaGreatDoor
namespace Go.Proofs.YtmggcfijlpldpaaGreatDoor
open Go Mb Go.ChangeShapes Go.WideShapes Go.RowKit
inductive FK where
  | i (k:IntKind)
  | b
def FK.ok:FK→Value→Prop
  | .i k,v=>∃ n,v = .int k n∧(Lit.int k n).wf = true
  | .b,v=>∃ x,v = .bool x
def tu:List FK→List Value→Prop
  | [],[]=>True
  | k::ks,v::vs=>k.ok v∧tu ks vs
  | _,_=>False
theorem tu.app:∀ {ks ls:List FK} {vs ws:List Value},tu ks vs→tu ls ws→tu (ks++ls) (vs++ws)
  | [],_,[],_,_,h=>h
  | _::_,_,_::_,_,h,g=>⟨h.1,h.2.app g⟩
  | [],_,_::_,_,h,_=>h.elim
  | _::_,_,[],_,h,_=>h.elim
theorem tu.len:∀ {ks:List FK} {vs:List Value},tu ks vs→vs.length = ks.length
  | [],[],_=>rfl
  | _::_,_::_,h=>by simp [h.2.len]
  | [],_::_,h=>h.elim
  | _::_,[],h=>h.elim
def fldK (P:Program) (r:TypeId→Option (List FK)):Nat→List Field→Option (List FK)
  | _,[]=>some []
  | o,f::fs=>if f.offset = o then (r f.type).bind fun ks=>if ks.length = P.cellsOf f.type then (fldK P r (o + ks.length) fs).map (ks++·) else none else none
def flatK (P:Program):Nat→TypeId→Option (List FK)
  | 0,_=>none
  | n + 1,t=>match P.underlying t with
    | some (.int k)=>some [.i k]
    | some .bool=>some [.b]
    | some (.struct fs)=>(fldK P (flatK P n) 0 fs.toList).bind fun ks=>if ks.length = P.cellsOf t then some ks else none
    | some (.array m e)=>(flatK P n e).bind fun ks=>if ks.length = P.cellsOf e∧m * ks.length = P.cellsOf t then some (List.replicate m ks).flatten else none
    | _=>none
section
variable {H:Type} {enc:TypeId × Value→H} {P:Program} {W:World} {base:Nat} {sp:Nat→Bool} {held:Bool}
theorem trod_array {t e m fuel:Nat} {cs:List Value} {x:DataW H × List MemPlace} (ht:P.underlying t = some (.array m e)) (h:DataW.trod enc P W base sp held fuel t cs = some x) :
    ∃ (xs:List (DataW H × List MemPlace)) (n:Nat),fuel = n + 1∧x = (.agg (xs.map (·.1)),xs.flatMap (·.2))∧cs.length = P.cellsOf t∧xs.length = m ∧
      ∀ i,i < m→DataW.trod enc P W base sp held n e ((cs.drop (i * P.cellsOf e)).take (P.cellsOf e)) = xs[i]?:=by
  cases fuel with
  | zero=>simp [DataW.trod] at h
  | succ n =>
    unfold DataW.trod at h
    rw [ht] at h
    split at h <;> simp_all
    obtain ⟨hl,xs,hp,hd⟩:=h
    refine ⟨xs,hd.symm,by simpa using mapM_some_length hp,fun i hi=>mapM_some_get hp i i (by simp [hi])⟩
theorem flatMap_nil {α β:Type} {f:α→List β} {xs:List α} (h:∀ x ∈ xs,f x = []):xs.flatMap f = []:=by
  rw [List.flatMap_eq_nil_iff]; exact h
theorem take_drop_take (cs:List Value) (o n:Nat):(cs.drop o).take n++cs.drop (o + n) = cs.drop o:=by
  rw [← List.drop_drop,List.take_append_drop]
theorem fld_fits {r:TypeId→Option (List FK)} {cs:List Value} {g:TypeId→List Value→Option (DataW H × List MemPlace)} (hr:∀ t ks cs x,r t = some ks→g t cs = some x→tu ks cs∧x.2 = []) :
    ∀ (fs:List Field) (o:Nat) (ks:List FK),fldK P r o fs = some ks→(∀ f ∈ fs,∃ x,g f.type ((cs.drop f.offset).take (P.cellsOf f.type)) = some x)→o + ks.length = cs.length→tu ks (cs.drop o)
  | [],o,ks,h,_,hl=>by
    simp only [fldK,Option.some.injEq] at h
    subst h
    have:cs.drop o = []:=List.drop_eq_nil_of_le (by simp at hl; omega)
    rw [this]; trivial
  | f::fs,o,ks,h,hx,hl=>by
    unfold fldK at h
    split at h
    · rename_i ho
      obtain ⟨ks1,h1,h2⟩:=Option.bind_eq_some_iff.1 h
      split at h2
      · rename_i hc
        obtain ⟨ks2,h3,rfl⟩:=Option.map_eq_some_iff.1 h2
        obtain ⟨x,hx1⟩:=hx f (by simp)
        have f1:=(hr _ _ _ _ h1 hx1).1
        have f2:=fld_fits hr fs (o + ks1.length) ks2 h3 (fun f' hf'=>hx f' (by simp [hf'])) (by simp at hl; omega)
        rw [ho,← hc] at f1
        have:=f1.app f2
        rwa [take_drop_take] at this
      · cases h2
    · cases h
theorem arr_fits {ks:List FK} {c:Nat} (hc:ks.length = c):∀ (m:Nat) (cs:List Value),cs.length = m * c→(∀ i,i < m→tu ks ((cs.drop (i * c)).take c))→tu (List.replicate m ks).flatten cs
  | 0,cs,hl,_=>by
    have:cs = []:=List.eq_nil_of_length_eq_zero (by simpa using hl)
    subst this; trivial
  | m + 1,cs,hl,h=>by
    rw [List.replicate_succ,List.flatten_cons]
    have h0:=h 0 (by omega)
    simp only [Nat.zero_mul,List.drop_zero] at h0
    have h1:=arr_fits hc m (cs.drop c) (by rw [List.length_drop,hl,Nat.succ_mul]; omega) (fun i hi=>by
      have:=h (i + 1) (by omega)
      rwa [List.drop_drop,Nat.add_comm,← Nat.succ_mul])
    have:=h0.app h1
    rwa [List.take_append_drop] at this
theorem trod_flat:∀ (n t:Nat) (ks:List FK),flatK P n t = some ks→∀ (fuel:Nat) (cs:List Value) (x:DataW H × List MemPlace),DataW.trod enc P W base sp held fuel t cs = some x→tu ks cs∧x.2 = []
  | 0,_,_,h,_,_,_,_=>by cases h
  | n + 1,t,ks,h,fuel,cs,x,hx=>by
    have ih:=trod_flat n
    unfold flatK at h
    split at h
    · rename_i k hu
      cases h
      obtain ⟨m,rfl,rfl,hw⟩:=DataW.trod_int hu hx
      exact ⟨⟨⟨m,rfl,hw⟩,trivial⟩,rfl⟩
    · rename_i hu
      cases h
      obtain ⟨b,rfl,rfl⟩:=DataW.trod_bool hu hx
      exact ⟨⟨⟨b,rfl⟩,trivial⟩,rfl⟩
    · rename_i fs hu
      obtain ⟨ks',h1,h2⟩:=Option.bind_eq_some_iff.1 h
      split at h2
      · rename_i hc
        cases h2
        obtain ⟨xs,f,rfl,rfl,hl,hxl,hi⟩:=DataW.trod_struct hu hx
        have hall:∀ fl ∈ fs.toList,∃ x,DataW.trod enc P W base sp held f fl.type ((cs.drop fl.offset).take (P.cellsOf fl.type)) = some x:=by
          intro fl hfl
          obtain ⟨i,hi1,hi2⟩:=List.getElem_of_mem hfl
          have:=hi i fl (by rw [← Array.getElem?_toList,List.getElem?_eq_getElem hi1,hi2])
          have hlt:i < xs.length:=by rw [hxl]; simpa using hi1
          rw [List.getElem?_eq_getElem hlt] at this
          exact ⟨_,this⟩
        refine ⟨?_,flatMap_nil fun y hy=>?_⟩
        · have:=fld_fits (P:=P) (cs:=cs) (fun t ks cs x h=>ih t ks h f cs x) fs.toList 0 ks h1 hall (by rw [hc,hl]; omega)
          simpa using this
        · obtain ⟨i,hi1,rfl⟩:=List.getElem_of_mem hy
          have hif:i < fs.size:=by rw [← hxl]; exact hi1
          have h3:=hi i fs[i] (by simp [hif])
          rw [List.getElem?_eq_getElem hi1] at h3
          have key:∀ (l:List Field) (o:Nat) (ks:List FK),fldK P (flatK P n) o l = some ks→∀ fl ∈ l,∃ ks,flatK P n fl.type = some ks:=by
            intro l
            induction l with
            | nil=>intro _ _ _ fl h; cases h
            | cons a l ihl =>
              intro o ks hk fl hfl
              unfold fldK at hk
              split at hk
              · obtain ⟨k1,hk1,hk2⟩:=Option.bind_eq_some_iff.1 hk
                rcases List.mem_cons.1 hfl with rfl | hfl
                · exact ⟨_,hk1⟩
                · split at hk2
                  · obtain ⟨k2,hk3,_⟩:=Option.map_eq_some_iff.1 hk2
                    exact ihl _ _ hk3 fl hfl
                  · cases hk2
              · cases hk
          obtain ⟨ks2,hks2⟩:=key _ _ _ h1 fs[i] (by simp)
          exact (ih _ _ hks2 _ _ _ h3).2
      · cases h2
    · rename_i m e hu
      obtain ⟨ks',h1,h2⟩:=Option.bind_eq_some_iff.1 h
      split at h2
      · rename_i hc
        cases h2
        obtain ⟨xs,f,rfl,rfl,hl,hxl,hi⟩:=trod_array hu hx
        have hat:∀ i,i < m→∃ x,xs[i]? = some x∧DataW.trod enc P W base sp held f e ((cs.drop (i * P.cellsOf e)).take (P.cellsOf e)) = some x:=fun i him=>by
          have:=hi i him
          rw [List.getElem?_eq_getElem (by omega)] at this
          exact ⟨_,List.getElem?_eq_getElem (by omega),this⟩
        refine ⟨arr_fits (by exact hc.1) m cs (by rw [hl,← hc.2,hc.1]) (fun i him=>?_),flatMap_nil fun y hy=>?_⟩
        · obtain ⟨x,_,hx2⟩:=hat i him
          exact (ih _ _ h1 _ _ _ hx2).1
        · obtain ⟨i,hi1,rfl⟩:=List.getElem_of_mem hy
          obtain ⟨x,hx1,hx2⟩:=hat i (by omega)
          rw [List.getElem?_eq_getElem hi1] at hx1
          cases hx1
          exact (ih _ _ h1 _ _ _ hx2).2
      · cases h2
    · cases h
end
structure Arg {τ:Type} (W:World) (m:Nat) (enc:τ→List Value) (s:Sl) (xs:List τ):Prop where
  len:s.len = xs.length
  cap:s.len ≤ s.cap
  row:s.cap = 0∨∃ b pre rest U fr,s.a = some (b,pre.length)∧s.cap * m ≤ s.len * m + rest.length∧s.g = some (pre,rest,U,fr)∧nf fr pre.length (s.cap * m)∧b ≠ 0∧W.heap[b]? = some (.cells (pre++(xs.flatMap enc++rest)).toArray U fr)
section
variable {H:Type} {enc:TypeId × Value→H} {P:Program} {W:World}
theorem has_spot {r:Reach} {b0:Nat} {t e:TypeId} {a:Addr} {len cap:Nat} (ht:P.underlying t = some (.slice e)) (h:Value.okWide P W r b0 t (.slice (some a) len cap)):a.spot = none∧∃ c T fr,W.heap[a.block]? = some (.cells c T fr):=by
  unfold Value.okWide at h
  rw [ht] at h
  unfold Cell.okWide at h
  rw [ht] at h
  simp only at h
  unfold Cell.ok at h
  rw [ht] at h
  simp only at h
  obtain ⟨_,_,_,hs,row,cells,h1,_⟩:=h
  refine ⟨hs,?_⟩
  unfold World.shape? at h1
  split at h1
  · rename_i c T fr hq
    exact ⟨_,_,_,hq⟩
  · cases h1
theorem open_arg {τ:Type} {b0 m:Nat} {t e:TypeId} {ks:List FK} {enc':τ→List Value} {v:Value} {d:DataW H} {ps:List MemPlace} {ET:Nat} {EF:Nat × Nat} {X:Value} (ht:P.underlying t = some (.slice e)) (hm:P.cellsOf e = m) (hk:flatK P 9 e = some ks) (hpos:0 < m)
    (dec:∀ cs,tu ks cs→∃ x:τ,enc' x = cs) (hval:Value.okWide P W .any b0 t v) (hd:DataW.Trod enc P W 0 (fun _=>true) true t v d ps) (hz:W.noneFrozen ps)
    (hw:W.heap[0]? = some (.cells #[X] ET EF)) (hX:∀ k,¬ FK.ok k X):∃ (s:Sl) (xs:List τ),v = sv s∧Arg W m enc' s xs:=by
  obtain ⟨a0,len0,qY,rfl⟩:=okWide_slice ht hval
  obtain ⟨fuel,hf⟩:=hd
  rcases Go.Deep.open_slice ht hf with ⟨h1,_⟩ | ⟨a,len,cap,mm,n,D,Pl,h1,_,hl,_,hmm,hx,hi⟩
  · simp only [Value.cells,List.cons.injEq,Value.slice.injEq,and_true] at h1
    obtain ⟨rfl,rfl,rfl⟩:=h1
    exact ⟨⟨none,0,0,none⟩,[],rfl,rfl,Nat.le_refl _,.inl rfl⟩
  · simp only [Value.cells,List.cons.injEq,Value.slice.injEq,and_true] at h1
    obtain ⟨rfl,rfl,rfl⟩:=h1
    simp only [if_true] at hmm
    subst hmm
    obtain ⟨hs,c,T,fr,hb⟩:=has_spot ht hval
    obtain ⟨b,off,spot⟩:=a
    simp only at hs hb
    subst hs
    by_cases hc0:mm = 0
    · subst hc0
      obtain rfl:len0 = 0:=by omega
      exact ⟨⟨some (b,off),0,0,none⟩,[],rfl,rfl,Nat.le_refl _,.inl rfl⟩
    rw [hm] at hi hx
    have kM:∀ i,i < mm→∃ x:τ,(enc' x).length = m∧tu ks (enc' x)∧∀ j,j < m→c.toList[off + i * m + j]? = (enc' x)[j]?:=by
      intro i him
      obtain ⟨cs',h2,h3⟩:=hi i him
      obtain ⟨_,hlen,hget⟩:=World.cells?_some h2
      have hfit:=(trod_flat 9 e ks hk _ _ _ h3).1
      obtain ⟨x,rfl⟩:=dec cs' hfit
      refine ⟨x,hlen,hfit,fun j hj=>?_⟩
      have:=hget j hj
      rw [WideShapes.add_plain,WideShapes.add_plain] at this
      rw [← this]
      unfold World.cell?
      rw [hb]
      simp
    have hsize:off + mm * m ≤ c.toList.length:=by
      obtain ⟨x,hxl,_,hj⟩:=kM (mm - 1) (by omega)
      have h4:=hj (m - 1) (by omega)
      have h5:=(List.getElem?_eq_some_iff.1 (h4.trans (List.getElem?_eq_getElem (by omega)))).1
      have:mm * m = (mm - 1) * m + m:=by rw [← Nat.succ_mul]; congr 1; omega
      omega
    have hflat:∀ k,k ≤ mm→∃ ys:List τ,ys.length = k∧(c.toList.drop off).take (k * m) = ys.flatMap enc':=by
      intro k
      induction k with
      | zero=>exact fun _=>⟨[],rfl,by simp⟩
      | succ k ih =>
        intro hk1
        obtain ⟨ys,hy1,hy2⟩:=ih (by omega)
        obtain ⟨x,hxl,_,hj⟩:=kM k (by omega)
        refine ⟨ys++[x],by simp [hy1],?_⟩
        rw [Nat.succ_mul,List.take_add,hy2,List.flatMap_append]
        congr 1
        simp only [List.flatMap_cons,List.flatMap_nil,List.append_nil]
        apply List.ext_getElem?
        intro j
        rw [List.drop_drop,List.getElem?_take,List.getElem?_drop]
        by_cases hjm:j < m
        · rw [if_pos hjm,← hj j hjm]
        · rw [if_neg hjm,List.getElem?_eq_none (by omega)]
    obtain ⟨xs,hx1,hx2⟩:=hflat len0 hl
    have hlm:len0 * m ≤ mm * m:=Nat.mul_le_mul_right m hl
    refine ⟨⟨some (b,off),len0,mm,some (c.toList.take off,c.toList.drop (off + len0 * m),T,fr)⟩,xs,rfl,hx1.symm,hl,.inr ⟨b,c.toList.take off,c.toList.drop (off + len0 * m),T,fr,?_,?_,rfl,?_,?_,?_⟩⟩
    · rw [List.length_take,Nat.min_eq_left (by omega)]
    · show mm * m ≤ len0 * m + _
      rw [List.length_drop]; omega
    · rw [List.length_take,Nat.min_eq_left (by omega)]
      intro j j1 j2
      have j2':j < off + mm * m:=j2
      have hp:MemPlace.cell b j ∈ ps:=by
        have hps:=congrArg Prod.snd hx
        simp only at hps
        rw [hps]
        refine List.mem_append_left _ (List.mem_map.2 ⟨j - off,List.mem_range.2 (by omega),?_⟩)
        show MemPlace.cell b (off + (j - off)) = _
        congr 1; omega
      have:=hz b j hp
      unfold World.frozen? at this
      simp only [hb] at this
      exact this
    · rintro rfl
      rw [hw] at hb
      cases hb
      obtain ⟨x,hxl,hfit,hj⟩:=kM 0 (by omega)
      have h4:=hj 0 hpos
      simp only [Nat.zero_mul,Nat.add_zero] at h4
      cases hks:ks with
      | nil=>subst hks; have:=hfit.len; simp at this; simp [this] at hxl; omega
      | cons k ks' =>
        subst hks
        cases hex:enc' x with
        | nil=>rw [hex] at hxl; simp at hxl; omega
        | cons y ys =>
          rw [hex] at hfit h4
          simp only [List.getElem?_cons_zero] at h4
          have h5:y = X:=by
            cases off with
            | zero=>simpa using h4.symm
            | succ o=>simp at h4
          exact hX k (h5 ▸ hfit.1)
    · rw [hb]
      congr 2
      apply Array.ext'
      show c.toList = c.toList.take off++(xs.flatMap enc'++c.toList.drop (off + len0 * m))
      rw [← hx2,← List.drop_drop,List.take_append_drop,List.take_append_drop]
theorem open_bool {b0:Nat} {t:TypeId} {v:Value} {d:DataW H} {ps:List MemPlace} (ht:P.underlying t = some .bool) (hval:Value.okWide P W .any b0 t v) (hd:DataW.Trod enc P W 0 (fun _=>true) true t v d ps):∃ b,v = .bool b:=okWide_bool ht hval
theorem trodAll_stays (hl:laidOutB P = true) {W':World} {sp':Nat→Bool}:∀ {ts:List TypeId} {vs:List Value} {ds:List (DataW H)} {ps:List MemPlace},(∀ t ∈ ts,P.readableRec t = true∧t < P.types.size) →
    DataW.TrodAll enc P W 0 (fun _=>true) true ts vs ds ps→(∀ p ∈ ps,W.sameAt W' p)→(∀ p ∈ ps,sp' p.block = true)→DataW.TrodAll enc P W' 0 sp' true ts vs ds ps
  | [],_,_,_,_,h,_,_=>by
    obtain ⟨rfl,rfl,rfl⟩:=trodAll_nil h
    rfl
  | t::ts,_,_,_,hr,h,hs,hp=>by
    obtain ⟨v,vs,d,ds,a,b,rfl,rfl,rfl,h1,h2⟩:=trodAll_cons h
    exact ⟨a,b,Go.WideElems.Trod_stays hl (hr t (by simp)).1 (hr t (by simp)).2 h1 (fun p q=>hs p (by simp [q])) (fun p q=>hp p (by simp [q])),trodAll_stays hl (fun t q=>hr t (by simp [q])) h2 (fun p q=>hs p (by simp [q])) (fun p q=>hp p (by simp [q])),rfl⟩
end
end Go.Proofs.YtmggcfijlpldpaaGreatDoor
namespace Go.Proofs.YtmggcfijlpldpaaGreatDoor
open Go Mb Go.ChangeShapes Go.WideShapes Go.RowKit
theorem no_iface (k:FK):¬ FK.ok k (rtV gg):=by
  cases k with
  | i k=>rintro ⟨n,h,_⟩; cases h
  | b=>rintro ⟨x,h⟩; cases h
theorem fit_cons {k:FK} {ks:List FK} {cs:List Value} (h:tu (k::ks) cs):∃ v vs,cs = v::vs∧k.ok v∧tu ks vs:=by
  cases cs with
  | nil=>exact h.elim
  | cons v vs=>exact ⟨v,vs,rfl,h.1,h.2⟩
theorem fit_i {k:IntKind} {ks:List FK} {cs:List Value} (h:tu (.i k::ks) cs):∃ (n:Int) (vs:List Value),cs = .int k n::vs∧(Lit.int k n).wf = true∧tu ks vs:=by
  obtain ⟨v,vs,rfl,⟨n,rfl,hw⟩,hf⟩:=fit_cons h
  exact ⟨n,vs,rfl,hw,hf⟩
theorem fit_nil {cs:List Value} (h:tu [] cs):cs = []:=by
  cases cs with
  | nil=>rfl
  | cons v vs=>exact h.elim
theorem Arg.sub {τ:Type} {P:τ→Prop} {W:World} {m:Nat} {C:τ→List Value} {s:Sl} {xs:List {x:τ // P x}} (A:Arg W m (fun x=>C x.1) s xs):Arg W m C s (xs.map (·.1))∧∀ x ∈ xs.map (·.1),P x:=by
  refine ⟨⟨by simpa using A.len,A.cap,?_⟩,fun x hx=>?_⟩
  · have e:(xs.map (·.1)).flatMap C = xs.flatMap (fun x=>C x.1):=by rw [List.flatMap_map]
    rw [e]; exact A.row
  · obtain ⟨y,_,rfl⟩:=List.mem_map.1 hx
    exact y.2
structure Same (W W':World):Prop where
  os:W'.os = W.os
  out:W'.output = W.output
  heap:∀ i,i < W.heap.size→W'.heap[i]? = W.heap[i]?
theorem Same.cell {W W':World} (s:Same W W') {p:MemPlace} (h:p.block < W.heap.size):W.sameAt W' p:=by
  cases p with
  | cell b off =>
    show W'.cell? _ = W.cell? _
    unfold World.cell?
    rw [s.heap b h]
  | map b=>exact s.heap b h
theorem run_spV {τ:Type} {T m:Nat} {enc:τ→List Value} {s:Sl} {xs:List τ} {f:FuncId} {vs:List Value} {ET:Nat} {EF:Nat × Nat} {W:World} (A:Arg W m enc s xs)
    (c:Sp Tryz.prog f vs az [etB ET EF,vec T m enc s xs] (fun r=>pa_ (r = true) [etB ET EF,vec T m enc s xs])) (hw:W.heap[0]? = some (.cells #[rtV gg] ET EF)) :
    Calls Tryz.prog f vs.toArray W fun e W'=>e = .returned (.bool true)∧Same W W':=by
  have key:∀ (g:Hp),g 0 = none→(∀ b o,g b = some o→W.heap[b]? = some o)→vec T m enc s xs g→(∀ g',vec T m enc s xs g'→∀ b o,g b = some o→g' b = some o) →
      Calls Tryz.prog f vs.toArray W fun e W'=>e = .returned (.bool true)∧Same W W':=by
    intro g g0 gW gv gk
    have hs:Sub (un (eH emp 0 (.cells #[rtV gg] ET EF)) g) W:=by
      intro b o ho
      by_cases hb:b = 0
      · subst hb; rw [un_left (jq _ _ _)] at ho; rw [hw]; exact ho
      · rw [un_right (pQ _ _ _ hb)] at ho; exact gW b o ho
    have hd:Dj (eH emp 0 (.cells #[rtV gg] ET EF)) g:=fun b=>by
      by_cases hb:b = 0
      · subst hb; exact .inr g0
      · exact .inl (pQ _ _ _ hb)
    have hst:aE [etB ET EF,vec T m enc s xs] (un (eH emp 0 (.cells #[rtV gg] ET EF)) g):=⟨_,_,hd,rfl,jq _ _ _,vV gv⟩
    refine (c _ hst W hs).mono ?_
    rintro e W' ⟨v,h',rfl,⟨r,rfl,q⟩,s',fr⟩
    obtain ⟨rfl,q⟩:=q
    obtain ⟨g1,a1,sub1⟩:=dR (i:=0) (A:=etB ET EF) rfl q
    obtain ⟨g2,a2,sub2⟩:=dR (i:=1) (A:=vec T m enc s xs) rfl q
    refine ⟨rfl,fr.os,fr.out,fun i hi=>?_⟩
    rcases Nat.eq_zero_or_pos i with rfl | hp
    · rw [s' _ _ (sub1 _ _ a1),hw]
    · cases hg:g i with
      | none=>exact fr.same i hi (tx.2 ⟨pQ _ _ _ (by omega),hg⟩)
      | some o=>rw [s' _ _ (sub2 _ _ (gk g2 a2 i o hg)),gW i o hg]
  rcases A.row with h0 | ⟨b,pre,rest,U,fr,h1,h2,h3,h4,h5,h6⟩
  · exact key emp rfl (fun b o h=>by cases h) ⟨A.len,A.cap,.inl h0⟩ (fun _ _ b o h=>by cases h)
  · by_cases h0:s.cap = 0
    · exact key emp rfl (fun b o h=>by cases h) ⟨A.len,A.cap,.inl h0⟩ (fun _ _ b o h=>by cases h)
    · refine key (eH emp b (.cells (pre++(xs.flatMap enc++rest)).toArray U fr)) (pQ _ _ _ (Ne.symm h5)) ?_ ⟨A.len,A.cap,.inr ⟨b,pre,rest,U,fr,h1,h2,?_,jq _ _ _⟩⟩ ?_
      · intro b' o ho
        unfold eH at ho
        split at ho
        · rename_i hb; subst hb; rw [h6]; exact ho
        · cases ho
      · unfold gh; rw [h3]; exact ⟨rfl,h4⟩
      · rintro g' ⟨_,_,r⟩ b' o ho
        rcases r with r | ⟨c',pre',rest',U',fr',r1,_,r3,r4⟩
        · exact absurd r h0
        · rw [h1] at r1
          unfold gh at r3
          rw [h3] at r3
          obtain ⟨r5,_⟩:=r3
          simp only [Prod.mk.injEq] at r5
          obtain ⟨rfl,rfl,rfl,rfl⟩:=r5
          simp only [Option.some.injEq,Prod.mk.injEq] at r1
          obtain ⟨rfl,_⟩:=r1
          unfold eH at ho
          split at ho
          · rename_i hb; subst hb; cases ho; exact r4
          · cases ho
theorem same_post {H:Type} {enc:TypeId × Value→H} {W W':World} {ts:List TypeId} {vs:List Value} {ds:List (DataW H)} {ps:List MemPlace} {sp:Nat→Bool} (hl:laidOutB Tryz.prog = true) (hr:(ts.all fun t=>Tryz.prog.readableRec t && decide (t < Tryz.prog.types.size)) = true)
    (h:DataW.TrodAll enc Tryz.prog W 0 (fun _=>true) true ts vs ds ps) (hlt:∀ p ∈ ps,p.block < W.heap.size) (s:Same W W') (hs:∀ p ∈ ps,sp p.block = true):DataW.TrodAll enc Tryz.prog W' 0 sp true ts vs ds ps :=
  trodAll_stays hl (fun t ht=>by
    have:=List.all_eq_true.1 hr t ht
    simp only [Bool.and_eq_true,decide_eq_true_eq] at this
    exact this) h (fun p hp=>s.cell (hlt p hp)) hs
theorem want_all {ts:List TypeId} (h:(ts.all fun t=>!(Tryz.prog.wantsStandIn t)) = true) {j:Nat} {t:TypeId} (ht:ts.toArray[j]? = some t):Tryz.prog.wantsStandIn t = false:=by
  have:=List.all_eq_true.1 h t (List.mem_of_getElem? (by simpa using ht))
  simpa using this
end Go.Proofs.YtmggcfijlpldpaaGreatDoor
namespace Go.Proofs.YtmggcfijlpldpaaGreatDoor
open Go Mb Go.ChangeShapes Go.WideShapes Go.RowKit
theorem decRaceGrant3 (cs:List Value) (h:tu [.i .i64] cs):∃ x:{x:Int // tu [.i .i64] ((cI .i64) x)},(cI .i64) x.1 = cs:=by
  have h0:=h
  obtain ⟨a0,r0,rfl,_,h⟩:=fit_i h
  obtain rfl:=fit_nil h
  exact ⟨⟨a0,h0⟩,rfl⟩
set_option maxRecDepth 100000 in
theorem lifted_6 (os:Os) (started:os.Started) (H:Type) (enc:TypeId × Value→H) :
    ReturnsInHanded {} Tryz.checked os 6 .any (fun w args=>(Rows.raceGrantSpec.pre enc Tryz.prog Tryz.f6 [] false w args∧laidMetH Tryz.prog laid w)∧sizedMet enc Tryz.prog Tryz.f6 (OpenSpec.ofChange Rows.raceGrantSpec) false w args)
      (Rows.raceGrantSpec.post enc Tryz.prog Tryz.f6 false true false false):=by
  refine returnsInHanded_of_change_and (C:=Tryz.checked) (X:=fun w _=>laidMetH Tryz.prog laid w) (fun _ _ _ hh h=>h.of_heap hh) Tryz.own started (by kernel_rfl) Tryz.func6
    (ChangeSpec.witness_at (enc:=enc) (C:=Tryz.checked) (os:=os) (X:=fun w _=>laidMetH Tryz.prog laid w) false (laidWorld os) #[.slice none 0 0,.bool false] 8 rfl (by kernel_rfl) (by kernel_rfl) (by kernel_rfl) (by kernel_rfl) (by kernel_rfl) (laidWorld_met os _)) ?_
  intro W base args ds gs before hval0 hW _ _ hL _
  have hval:∀ (j:Nat) t v,Tryz.f6.params[j]? = some t→args[j]? = some v→Value.okWide Tryz.prog W .any base t v:=hval0
  have hW':=hW
  obtain ⟨p,q,hA0,hV0,rfl,hfz,hnd⟩:=hW
  have hA:DataW.TrodAll enc Tryz.prog W 0 (fun _=>true) true Tryz.f6.params.toList args.toList ds p:=hA0
  have hV:DataW.TrodVars enc Tryz.prog W (fun _=>true) [] gs q:=hV0
  rw [Tryz.params6] at hA hval
  have hst:=hA
  obtain ⟨T,F,hb⟩:=block_of_laid hL
  obtain ⟨rfl,rfl⟩:gs = []∧q = []:=by
    cases gs with
    | nil=>exact ⟨rfl,hV⟩
    | cons g r=>exact absurd hV (by intro h; cases h)
  obtain ⟨v0,w0,d0,e0,p0,q0,hx0,rfl,rfl,h0,hA0⟩:=trodAll_cons hA
  obtain ⟨v1,w1,d1,e1,p1,q1,hx1,rfl,rfl,h1,hA1⟩:=trodAll_cons hA0
  obtain ⟨hy,rfl,rfl⟩:=trodAll_nil hA1
  subst hy
  subst hx1
  obtain rfl:args = #[v0,v1]:=by apply Array.ext'; exact hx0
  obtain ⟨s0,ys0,rfl,A0⟩:=open_arg (m:=1) (ks:=[.i .i64]) (enc':=fun x:{x:Int // tu [.i .i64] ((cI .i64) x)}=>(cI .i64) x.1) Tryz.underlying40 (by kernel_rfl) (by kernel_rfl) (by decide) decRaceGrant3 (hval 0 40 v0 rfl rfl) h0 (fun b o hb=>hfz b o (by simp [hb])) hb no_iface
  obtain ⟨A0,hf0⟩:=A0.sub
  generalize ys0.map (·.1) = xs0 at A0 hf0
  obtain ⟨b1,rfl⟩:=open_bool Tryz.underlying4 (hval 1 4 v1 rfl rfl) h1
  refine (run_spV A0 (ET:=T) (EF:=F) (sp_RaceGrant s0 xs0 b1) hb).mono fun e W' ⟨he,hk⟩=>?_
  subst he
  refine ⟨_,rfl,_,_,_,[],(p0++(p1++[])),[],hW',?_,?_,?_,keptBut_same hk.os hk.out hk.heap,fun h=>by cases h⟩
  · exact trodAll_mk1 (shut_bool Tryz.underlying4 true)
  · exact same_post (by kernel_rfl) (by kernel_rfl) hst (fun p hp=>hW'.lt p (List.mem_append_left _ hp)) hk (fun p hp=>by simpa using hW'.lt p (List.mem_append_left _ hp))
  · rfl
end Go.Proofs.YtmggcfijlpldpaaGreatDoor
namespace Go.Proofs.YtmggcfijlpldpaaGreatDoor
open Go Mb Go.ChangeShapes Go.WideShapes Go.RowKit
theorem jf0:Tryz.pinned.checked.prog.funcNamed Rows.raceGrantRow.func = some 6:=by kernel_rfl
theorem jf1:(Rows.raceGrantRow.wf (OpenSpec.ofChange Rows.raceGrantSpec) && laidOutB Tryz.pinned.checked.prog && mapsRowed Tryz.pinned.checked.prog) = true:=by kernel_rfl
theorem jf2:(Tryz.f6.params.all (Tryz.pinned.checked.prog.readableRec ·) && namedTie Tryz.pinned.checked.prog Rows.raceGrantRow.named Rows.raceGrantSpec.vars && (Rows.raceGrantRow.stops == []) && (Tryz.pinned.checked.prog.stops == []) && (Rows.raceGrantRow.knobs == []) && (Tryz.pinned.checked.prog.stopKnobs == [])) = true:=by kernel_rfl
theorem jf3:(Rows.raceGrantRow.inPlace == Tryz.pinned.checked.prog.inPlace 6) = true:=by kernel_rfl
theorem jf4:(Rows.raceGrantRow.unfollowed == Tryz.pinned.checked.prog.unfollowed 6) = true:=by kernel_rfl
theorem jf5:(Rows.raceGrantRow.recurses == Tryz.pinned.checked.prog.recurses 6) = true:=by kernel_rfl
theorem jf6:(Rows.raceGrantRow.named == Tryz.pinned.checked.prog.varsNamed 6) = true:=by kernel_rfl
theorem jf7:((Rows.raceGrantRow.maps == (Tryz.f6.params.toList++Rows.raceGrantSpec.plain.varTypes Tryz.pinned.checked.prog).any (Tryz.pinned.checked.prog.mapsRec ·)) && (Rows.raceGrantRow.ifaces == (Tryz.f6.params.toList++Rows.raceGrantSpec.plain.varTypes Tryz.pinned.checked.prog).any (Tryz.pinned.checked.prog.ifacesRec ·)) && (Rows.raceGrantRow.mapsOut == Tryz.pinned.checked.prog.mapsAmong Tryz.f6.resultTypes.toList) &&
  (Rows.raceGrantRow.loops == (Tryz.f6.params.toList++Rows.raceGrantSpec.plain.varTypes Tryz.pinned.checked.prog).any (Tryz.pinned.checked.prog.loopsFrom ·)) && (Rows.raceGrantRow.wideKeys == (Tryz.f6.params.toList++Rows.raceGrantSpec.plain.varTypes Tryz.pinned.checked.prog++Tryz.f6.resultTypes.toList).any (Tryz.pinned.checked.prog.wideKeysFrom ·)) &&
  Rows.raceGrantSpec.vars.all (Tryz.pinned.checked.prog.varReadable ·) && Tryz.f6.resultTypes.all (fun t=>Tryz.pinned.checked.prog.readableRec t && decide (t < Tryz.pinned.checked.prog.types.size)) && (Rows.raceGrantRow.ifacesOut == Tryz.f6.resultTypes.toList.any (Tryz.pinned.checked.prog.ifacesRec ·)) && (Rows.raceGrantRow.loopsOut == Tryz.f6.resultTypes.toList.any (Tryz.pinned.checked.prog.loopsFrom ·))) = true:=by kernel_rfl
theorem jf8:(Rows.raceGrantRow.plainKeys == Tryz.pinned.checked.prog.plainKeys) = true:=by kernel_rfl
theorem jf9:(Rows.raceGrantRow.shortTexts.isNone && Tryz.pinned.checked.prog.stopsHeard && Tryz.pinned.checked.prog.mayEnter && (Rows.raceGrantRow.lifted == Tryz.pinned.checked.prog.liftsFinal) && (Tryz.pinned.checked.prog.make == some Rows.raceGrantRow.make) && kindsB Tryz.pinned.checked.prog Tryz.f6 Rows.raceGrantRow && (Rows.raceGrantRow.pinned == Rows.raceGrantRow.pinnedBy) &&
  (Rows.raceGrantRow.veiled == (Tryz.f6.params.toList++Rows.raceGrantSpec.plain.varTypes Tryz.pinned.checked.prog++Tryz.f6.resultTypes.toList).any (Tryz.pinned.checked.prog.veiledRec ·)) && Rows.raceGrantRow.veiledFits Tryz.pinned.checked.prog Tryz.f6.params.toList (Tryz.f6.params.toList++Rows.raceGrantSpec.plain.varTypes Tryz.pinned.checked.prog++Tryz.f6.resultTypes.toList)) = true:=by kernel_rfl
theorem said_6:Rows.RaceGrantSaid :=
  OpenClaim.holds_of_wide 6 Tryz.f6 rfl rfl rfl rfl rfl rfl rfl ⟨rfl,rfl,rfl,rfl,rfl⟩ rfl rfl rfl rfl rfl jf0 Tryz.func6 (joined_split jf1 jf2 jf3 jf4 jf5 jf6 jf7 jf8 jf9)
    (of_decide_eq_true (by kernel_rfl)) (by unfold Func.isWrapper; rw [if_neg (of_decide_eq_false (by kernel_rfl))]; exact ⟨rfl,rfl⟩)
    (fun os started H enc _=>lifted_6 os started H enc)
theorem raceGrant_holds:Rows.RaceGrantCardSaid :=
  Claim7.holds_tied_plain_at .later [] [.handle] true (true, "0a18a80e28d285d70557e301bc4d2565b35b6c3c507dca02213e4d1d6624e7b5") true
    said_6 (fun _ h=>by cases h) (by kernel_rfl) (fun _ h=>by cases h) raceGrant_row_tie rfl ⟨rfl,rfl⟩ (by kernel_rfl) rfl
    (fun f fn hf hfn=>by
      obtain rfl:f = 6:=Option.some.inj ((show Tryz.prog.funcNamed "messuage/messuagelaw16.RaceGrant" = some 6 by kernel_rfl).symm.trans hf) |>.symm
      obtain rfl:fn = Tryz.f6:=(Option.some.inj (Tryz.func6.symm.trans hfn)).symm
      exact ⟨by kernel_rfl,fun j t ht=>by
        rw [Tryz.params6] at ht
        exact want_all (by kernel_rfl) (j:=j) (t:=t) ht⟩)
    (by kernel_rfl)
end Go.Proofs.YtmggcfijlpldpaaGreatDoor
