/- Part of the proof of: The law ShootRevoke returns true for every input, and leaves its arguments as they were. -/
import Derived.Test.YtemoifebbhoinaaGreatDoorShootRevoke15
import Derived.Test.YtemoifebbhoinaaGreatDoorCards
import Derived.Test.YtemoifebbhoinaaGreatDoorRows
set_option linter.all false
set_option maxRecDepth 20000
namespace Go.Proofs.YtemoifebbhoinaaGreatDoor
open Go Mb
abbrev vG (s:Sl) (xs:List Pte):As:=vec t_api_Pte 3 am.C s xs
theorem pte_one (p:Pte):dJ p.C = true:=rfl
namespace Judge
def ev (es:List bA) (i:Int):bA:=es.getD i.toNat Hist.ev00
def takes (e:bA):Bool:=(aA e.fCall).1 == 7 || (aA e.fCall).1 == 8 || (aA e.fCall).1 == 4 || (aA e.fCall).1 == 5
def othersFrom (k:PK) (es:List bA) (env pg:Int):List Int→List Pte
  | []=>[]
  | i::l=>if takes (ev es i) = true then (PK.pte (PK.do_ k (ev es i).fEnv (ev es i).fCall).2 env pg).1::othersFrom k es env pg l else othersFrom k es env pg l
def others (k:PK) (es:List bA) (at_ env pg:Int):List Pte:=(PK.pte k env pg).1::othersFrom k es env pg (Hist.over es at_)
def faults (e:bA) (l:List Pte):Bool:=l.any fun p=>!(cA p.fRights (IntKind.i64.wrap e.fCall.e0))
def goes (e:bA) (l:List Pte):Bool:=l.any fun p=>(p.fFrame == e.fLine.fFrame) && (aQ e.fLine.fRights p.fRights)
def own (e:bA):Bool:=((e.fLine.fEnv == e.fEnv) && (e.fLine.fPage == (IntKind.i64.wrap e.fCall.e1))) && (cA e.fLine.fRights (IntKind.i64.wrap e.fCall.e0))
def access (k:PK) (es:List bA) (s:eY) (e:bA):Bool :=
  if Word.check e.fCall s.fEnvs ≠ 0 then (ab.eqb e.fAnswer ⟨Word.check e.fCall s.fEnvs,0⟩) && (an.eqb e.fLine km)
  else if e.fAnswer.fErr = 7 then (faults e (others k es e.fEffect e.fEnv (IntKind.i64.wrap e.fCall.e1)) && (e.fAnswer.fVal == 0)) && (an.eqb e.fLine km)
  else ((goes e (others k es e.fEffect e.fEnv (IntKind.i64.wrap e.fCall.e1)) && own e) && (PK.touch k e.fLine.fFrame e.fCall).1.2) && (ab.eqb (PK.touch k e.fLine.fFrame e.fCall).1.1 e.fAnswer)
def well (s:eY) (e:bA):Bool:=(e.fAnswer.fErr == 0) && (Word.check e.fCall s.fEnvs == 0) && (e.fLine.fRights != 0)
def runFrom (es:List bA) (s:eY) (lin acc:Bool):PK→List Int→Int × Bool
  | _,[]=>(-1,true)
  | k,i::l =>
    if fz (ev es i) = true then (if acc = true∧access k es s (ev es i) = false then (i,false) else runFrom es s lin acc (if well s (ev es i) = true then (PK.touch k (ev es i).fLine.fFrame (ev es i).fCall).2 else k) l)
    else if lin = true∧((PK.do_ k (ev es i).fEnv (ev es i).fCall).1.2 = false∨ab.eqb (PK.do_ k (ev es i).fEnv (ev es i).fCall).1.1 (ev es i).fAnswer = false) then (i,false)
    else runFrom es s lin acc (PK.do_ k (ev es i).fEnv (ev es i).fCall).2 l
def run (es:List bA) (s:eY) (lin acc:Bool):Int × Bool:=if Hist.may es s = true then runFrom es s lin acc (PK.new s) (Hist.order es) else (-1,false)
def linear (es:List bA) (s:eY):Int × Bool:=run es s true false
def accesses (es:List bA) (s:eY):Int × Bool:=run es s false true
def right (es:List bA) (s:eY):Bool:=(linear es s).2 && (accesses es s).2
theorem ev_nat {es:List bA} {n:Nat} (h:n < es.length):ev es n = es[n]:=by simp [ev,h]
theorem othersFrom_app (k:PK) (es:List bA) (env pg:Int) (i:Int):∀ l,othersFrom k es env pg (l++[i]) = othersFrom k es env pg l++(if takes (ev es i) = true then [(PK.pte (PK.do_ k (ev es i).fEnv (ev es i).fCall).2 env pg).1] else [])
  | []=>by simp only [List.nil_append,othersFrom]
  | j::l=>by
    simp only [List.cons_append,othersFrom,othersFrom_app k es env pg i l]
    split <;> simp
theorem othersFrom_len (k:PK) (es:List bA) (env pg:Int):∀ l,(othersFrom k es env pg l).length ≤ l.length
  | []=>Nat.le_refl _
  | i::l=>by unfold othersFrom; have:=othersFrom_len k es env pg l; split <;> simp <;> omega
end Judge
abbrev jc (s:Sl) (z:eY) (pk:Ptr):List Value:=[sv s,.int .i64 z.fCores,.int .i64 z.fEnvs,.int .i64 z.fFrames,pv pk]
theorem sp_judge_others (jb:Nat) (s:Sl) (z:eY) (pk:Ptr) (es:List bA) (k:PK) (a env pg:Int) (hb:es.length < 2 ^ 38) :
    Sp Tryz.prog lF [pv (some (jb,0)),.int .i64 a,.int .i64 env,.int .i64 pg] qm [blk jb dp (jc s z pk),vE s es,bn pk k] (fun r=>aG [vG r (Judge.others k es a env pg),blk jb dp (jc s z pk),vE s es,bn pk k]):=by
  intro h s0
  refine wI _ _ _ _ ?_
  unfold pF
  refine cE (bk pk s0 (i:=0) rfl rfl rfl ?_)
  refine bM (rS pk k env pg) (i:=2) rfl s0 fun r h1 hr s1=>?_
  subst hr
  refine eS (τ:=Pte) [(PK.pte k env pg).1] (val:=fun x=>.agg x.C.toArray) (enc:=am.C) el_Sapi_Pte jq (fun _=>rfl) s1 rfl rfl (by simp) fun v h2 s2=>?_
  refine bk s s2 (i:=1) rfl rfl rfl ?_
  refine uY (sp_hist_Over s es a hb) (i:=2) rfl s2 fun r37 h3 s3=>?_
  have hrl:=(cj (j:=0) s3 rfl).1
  have hol:=Hist.placesFrom_len (fun e=>decide (e.fBegin ≤ a) && (e.fEffect == 0 || decide (e.fEffect > a))) es 0
  have hol':(Hist.over es a).length ≤ es.length:=hol
  refine Lp.intro (fun (y:Sl × Int) h=>∃ n:Nat,y.2 = n∧n ≤ (Hist.over es a).length∧aG [vI r37 (Hist.over es a),vG y.1 ((PK.pte k env pg).1::Judge.othersFrom k es env pg ((Hist.over es a).take n)),blk jb dp (jc s z pk),vE s es,bn pk k] h) (fun (y:Sl × Int) _=>(Hist.over es a).length - y.2.toNat) ⟨0,rfl,Nat.zero_le _,s3⟩ ?_
  rintro ⟨y,i⟩ h ⟨n,rfl,hn,s4⟩
  unfold kQ
  refine ba (fun d=>?_) (fun d=>?_)
  · have hlt:n < (Hist.over es a).length:=by rw [hrl] at d; have:=of_decide_eq_true d; simp at this; exact this
    have hw:IntKind.i64.wrap ((n:Int) + 1) = ((n + 1:Nat):Int):=by rw [bR (by omega) (by omega)]; rfl
    have ht:(Hist.over es a).take (n + 1) = (Hist.over es a).take n++[(Hist.over es a)[n]]:=by simp
    have hin:=Hist.places_in (List.getElem_mem hlt)
    have hes:=(cj (j:=3) s4 rfl).1
    obtain ⟨m,hm⟩:=Int.eq_ofNat_of_zero_le hin.1
    have hml:m < es.length:=by omega
    have hev:Judge.ev es (Hist.over es a)[n] = es[m]:=by rw [hm,Judge.ev_nat hml]
    have happ:=Judge.othersFrom_app k es env pg (Hist.over es a)[n] ((Hist.over es a).take n)
    rw [hev] at happ
    have hfl:=Judge.othersFrom_len k es env pg ((Hist.over es a).take n)
    simp at hfl
    refine dC s4 (j:=0) rfl (by omega) (by show (n:Int) < _; omega) fun q hq=>?_
    refine eE (j:=0) (i:=n) (k:=0) (Hist.over es a)[n] (dl _) s4 rfl hq (by simp) (aH hlt) (by simp) ?_
    rw [hm]
    refine bk s s4 (i:=2) rfl rfl rfl ?_
    refine dC s4 (j:=3) rfl (by omega) (by omega) fun q2 hq2=>?_
    refine eE (j:=3) (i:=m) (k:=0) es[m] nB s4 rfl hq2 rfl (aH hml) (by simp) ?_
    have j1:∀ b,b = Judge.takes es[m]→dP env pg (jb,0) (fun s' h'=>(∃ n:Nat,s'.2 = n∧n ≤ (Hist.over es a).length∧aG [vI r37 (Hist.over es a),vG s'.1 ((PK.pte k env pg).1::Judge.othersFrom k es env pg ((Hist.over es a).take n)),blk jb dp (jc s z pk),vE s es,bn pk k] h')∧(Hist.over es a).length - s'.2.toNat < (Hist.over es a).length - (n:Int).toNat) (y,(n:Int)) es[m] b h:=by
      intro b hb2
      unfold dP
      rw [hb2,hw]
      refine ba (fun d2=>?_) (fun d2=>?_)
      · refine bk pk s4 (i:=2) rfl rfl rfl ?_
        refine uY (uJ pk k) (i:=4) rfl s4 fun r66 h5 s5=>?_
        refine bM (jQ r66 k es[m].fEnv es[m].fCall) (i:=0) rfl s5 fun r h6 hr s6=>?_
        refine bM (rS r66 _ env pg) (i:=0) rfl s6 fun r h7 hr s7=>?_
        subst hr
        refine kH (τ:=Pte) (i:=2) (enc:=am.C) (val:=fun x=>.agg x.C.toArray) el_Sapi_Pte jq pte_one (fun _=>rfl) (by omega) rfl rfl s7 rfl (by simp; omega) (by simp; omega) fun v h8 s8=>?_
        refine ⟨⟨n + 1,rfl,hlt,?_⟩,by simp; omega⟩
        rw [ht,happ,if_pos d2]
        exact cc (l:=[bn r66 _]) s8
      · refine ⟨⟨n + 1,rfl,hlt,?_⟩,by simp; omega⟩
        rw [ht,happ,if_neg (by rw [d2]; exact Bool.false_ne_true),List.append_nil]
        exact s4
    refine ba (fun c=>j1 _ (by unfold Judge.takes; rw [c]; rfl)) (fun c=>?_)
    refine ba (fun c2=>j1 _ (by unfold Judge.takes; rw [c,c2]; rfl)) (fun c2=>?_)
    refine ba (fun c3=>j1 _ (by unfold Judge.takes; rw [c,c2,c3]; rfl)) (fun c3=>j1 _ (by unfold Judge.takes; rw [c,c2,c3]; rfl))
  · have:n = (Hist.over es a).length:=by rw [hrl] at d; have:=of_decide_eq_false d; simp at this; omega
    subst this
    rw [List.take_length] at s4
    exact cc (l:=[vI r37 (Hist.over es a)]) s4
theorem any_snoc {α:Type} (f:α→Bool) (l:List α) (x:α):(l++[x]).any f = (l.any f || f x):=by simp
theorem sp_judge_access (jb:Nat) (s:Sl) (z:eY) (pk:Ptr) (es:List bA) (k:PK) (e:bA) (hb:es.length < 2 ^ 38) :
    Sp Tryz.prog lG [pv (some (jb,0)),.agg e.C.toArray] aC [blk jb dp (jc s z pk),vE s es,bn pk k] (fun r=>pa_ (r = Judge.access k es z e) [blk jb dp (jc s z pk),vE s es,bn pk k]):=by
  intro h s0
  refine wJ _ _ ?_
  unfold pG
  refine cE (bk z.fEnvs s0 (i:=0) rfl rfl rfl ?_)
  refine tJ (ji e.fCall z.fEnvs) s0 fun r h1 hr s1=>?_
  subst hr
  refine ba (fun d=>?_) (fun d=>?_)
  · exact aX (by unfold Judge.access; rw [if_pos (by simpa using d)]) s1
  · have d':¬ Word.check e.fCall z.fEnvs ≠ 0:=by simpa using d
    refine cT [0,0,0] (sp_judge_others jb s z pk es k e.fEffect e.fEnv (IntKind.i64.wrap e.fCall.e1) hb) s1 rfl fun r50 h2 s2=>?_
    have s3:=dD s2
    have hrl:=(cj (j:=0) s3 rfl).1
    have hol':(Hist.over es e.fEffect).length ≤ es.length:=Hist.placesFrom_len _ es 0
    have hfl:=Judge.othersFrom_len k es e.fEnv (IntKind.i64.wrap e.fCall.e1) (Hist.over es e.fEffect)
    have hll:(Judge.others k es e.fEffect e.fEnv (IntKind.i64.wrap e.fCall.e1)).length < 2 ^ 39:=by unfold Judge.others; simp; omega
    generalize hL:Judge.others k es e.fEffect e.fEnv (IntKind.i64.wrap e.fCall.e1) = L at *
    refine Lp.intro (fun (y:Bool × Bool × Int) h=>∃ n:Nat,y.2.2 = n∧n ≤ L.length∧y.1 = Judge.faults e (L.take n)∧y.2.1 = Judge.goes e (L.take n)∧aG [vG r50 L,blk jb dp (jc s z pk),vE s es,bn pk k] h) (fun (y:Bool × Bool × Int) _=>L.length - y.2.2.toNat) ⟨0,rfl,Nat.zero_le _,rfl,rfl,s3⟩ ?_
    rintro ⟨f,g,i⟩ h ⟨n,rfl,hn,hf,hg,s4⟩
    simp only at hf hg
    unfold kR
    refine ba (fun d2=>?_) (fun d2=>?_)
    · have hlt:n < L.length:=by rw [hrl] at d2; have:=of_decide_eq_true d2; simp at this; exact this
      have hw:IntKind.i64.wrap ((n:Int) + 1) = ((n + 1:Nat):Int):=by rw [bR (by omega) (by omega)]; rfl
      have ht:L.take (n + 1) = L.take n++[L[n]]:=by simp
      refine dC s4 (j:=0) rfl (by show (0:Int) ≤ n; omega) (by show (n:Int) < _; omega) fun q hq=>?_
      refine eE (j:=0) (i:=n) (k:=0) L[n] jq s4 rfl hq rfl (aH hlt) (by simp) ?_
      rw [hw]
      refine ⟨⟨n + 1,rfl,hlt,?_,?_,s4⟩,by simp; omega⟩
      · unfold Judge.faults; rw [ht,any_snoc]; show (f || _) = _; rw [hf]; rfl
      · unfold Judge.goes; rw [ht,any_snoc]; show (g || _) = _; rw [hg]; rfl
    · have:n = L.length:=by rw [hrl] at d2; have:=of_decide_eq_false d2; simp at this; omega
      subst this
      rw [List.take_length] at hf hg
      have s5:=cc (l:=[vG r50 L]) s4
      refine ba (fun d3=>?_) (fun d3=>?_)
      · refine aX ?_ s5
        unfold Judge.access
        rw [if_neg d',if_pos (by simpa using d3),hL,← hf]
      · refine bk pk s4 (i:=1) rfl rfl rfl ?_
        refine uY (uJ pk k) (i:=2) rfl s5 fun r104 h6 s6=>?_
        refine bM (ow r104 k e.fLine.fFrame e.fCall) (i:=0) rfl s6 fun r h7 hr s7=>?_
        subst hr
        refine aX ?_ (cc (l:=[bn r104 _]) s7)
        unfold Judge.access
        rw [if_neg d',if_neg (by simpa using d3),hL,← hg]
        rfl
theorem sp_judge_well (jb:Nat) (s:Sl) (z:eY) (pk:Ptr) (e:bA) :
    Sp Tryz.prog nt [pv (some (jb,0)),.agg e.C.toArray] aC [blk jb dp (jc s z pk)] (fun r=>pa_ (r = Judge.well z e) [blk jb dp (jc s z pk)]):=by
  intro h s0
  refine sim_judge_judge_well _ _ ?_
  unfold rI
  refine ba (fun d=>?_) (fun d=>?_)
  · refine cE (bk z.fEnvs s0 (i:=0) rfl rfl rfl ?_)
    refine tJ (ji e.fCall z.fEnvs) s0 fun r h1 hr s1=>?_
    subst hr
    refine ba (fun d2=>?_) (fun d2=>?_)
    · exact aX (by unfold Judge.well; rw [d,d2]; rfl) s1
    · exact aX (by unfold Judge.well; rw [d,d2]; rfl) s1
  · exact aX (by unfold Judge.well; rw [d]; rfl) s0
abbrev OrdOk (s:Sl) (es:List bA):Prop:=Sp Tryz.prog oS [sv s] cu [vE s es] (fun r=>aG [vI r (Hist.order es),vE s es])
theorem order_in {es:List bA} {x:Int} (h:x ∈ Hist.order es):0 ≤ x∧x < es.length:=Hist.places_in ((Hist.isort_perm _ _).subset h)
theorem order_len (es:List bA):(Hist.order es).length ≤ es.length:=by
  have h1:=(Hist.isort_perm (Hist.eff es) (Hist.effs es)).length_eq
  have h2:=Hist.placesFrom_len (fun e=>decide (e.fEffect > 0)) es 0
  unfold Hist.order; rw [h1]; exact h2
theorem sp_judge_run (s:Sl) (es:List bA) (z:eY) (lin acc:Bool) (hz:PK.sized z = true) (hb:es.length < 2 ^ 38) (ho:Hist.Apart es→OrdOk s es) :
    Sp Tryz.prog uu [sv s,.agg z.C.toArray,.bool lin,.bool acc] bL [vE s es] (fun r=>pa_ (r = Judge.run es z lin acc) [vE s es]):=by
  intro h s0
  refine sim_judge_run _ _ _ _ ?_
  unfold sh_judge_run
  refine bM (sp_hist_May s es z hb) (i:=0) rfl s0 fun r h1 hr s1=>?_
  subst hr
  refine ba (fun d=>?_) (fun d=>?_)
  · exact aX (by unfold Judge.run; rw [if_neg (by simpa using d)]) s1
  · have d':Hist.may es z = true:=by simpa using d
    have er:Judge.run es z lin acc = Judge.runFrom es z lin acc (PK.new z) (Hist.order es):=if_pos d'
    rw [er]
    refine lL (rT z hz) s1 fun pk h2 s2=>?_
    refine pt s2 fun b25 h3 s3=>?_
    refine uY (ho (Hist.may_apart d')) (i:=2) rfl s3 fun r27 h4 s4=>?_
    have hol:=order_len es
    have hrl:=(cj (j:=0) s4 rfl).1
    refine Lp.intro (fun (i:Int) h=>∃ (n:Nat) (k:PK),i = n∧n ≤ (Hist.order es).length∧Judge.runFrom es z lin acc k ((Hist.order es).drop n) = Judge.runFrom es z lin acc (PK.new z) (Hist.order es)∧aG [vI r27 (Hist.order es),blk b25 dp (jc s z pk),bn pk k,vE s es] h) (fun (i:Int) _=>(Hist.order es).length - i.toNat) ⟨0,_,rfl,Nat.zero_le _,rfl,s4⟩ ?_
    rintro i h ⟨n,k,rfl,hn,he,s5⟩
    have fin:∀ h,aG [vI r27 (Hist.order es),blk b25 dp (jc s z pk),bn pk k,vE s es] h→aG [vE s es] h:=fun h s=>cc (l:=[_,_,_]) s
    unfold xi
    refine ba (fun d2=>?_) (fun d2=>?_)
    · have hlt:n < (Hist.order es).length:=by rw [hrl] at d2; simpa using d2
      have hw:IntKind.i64.wrap ((n:Int) + 1) = ((n + 1:Nat):Int):=by rw [bR (by omega) (by omega)]; rfl
      have hin:=order_in (List.getElem_mem hlt)
      have hes:=(cj (j:=3) s5 rfl).1
      obtain ⟨m,hm⟩:=Int.eq_ofNat_of_zero_le hin.1
      have hml:m < es.length:=by omega
      have hev:Judge.ev es (Hist.order es)[n] = es[m]:=by rw [hm,Judge.ev_nat hml]
      rw [List.drop_eq_getElem_cons hlt,Judge.runFrom,hev] at he
      refine dC s5 (j:=0) rfl (by omega) (by omega) fun q hq=>?_
      refine eE (j:=0) (i:=n) (k:=0) (Hist.order es)[n] (dl _) s5 rfl hq (by simp) (aH hlt) (by simp) ?_
      rw [hm]
      refine dC s5 (j:=3) rfl (by omega) (by omega) fun q2 hq2=>?_
      refine eE (j:=3) (i:=m) (k:=0) es[m] nB s5 rfl hq2 rfl (aH hml) (by simp) ?_
      have hmi:((m:Int),false) = ((Hist.order es)[n],false):=by rw [hm]
      refine ba (fun d3=>?_) (fun d3=>?_)
      · rw [if_pos d3] at he
        have j1:∀ h,(acc = true∧Judge.access k es z es[m] = false) = False→aG [vI r27 (Hist.order es),blk b25 dp (jc s z pk),bn pk k,vE s es] h→sg b25 (fun s' h'=>(∃ (n:Nat) (k:PK),s' = n∧n ≤ (Hist.order es).length∧Judge.runFrom es z lin acc k ((Hist.order es).drop n) = Judge.runFrom es z lin acc (PK.new z) (Hist.order es)∧aG [vI r27 (Hist.order es),blk b25 dp (jc s z pk),bn pk k,vE s es] h')∧(Hist.order es).length - s'.toNat < (Hist.order es).length - (n:Int).toNat) (n:Int) es[m] () h:=by
          intro h hno s6
          rw [if_neg (by rw [hno]; exact not_false)] at he
          unfold sg
          refine bM (sp_judge_well b25 s z pk es[m]) (i:=1) rfl s6 fun r h7 hr s7=>?_
          subst hr
          rw [hw]
          refine ba (fun d4=>?_) (fun d4=>?_)
          · rw [if_pos d4] at he
            refine bk pk s7 (i:=1) rfl rfl rfl ?_
            refine bM (ow pk k es[m].fLine.fFrame es[m].fCall) (i:=2) rfl s7 fun r h8 hr s8=>?_
            exact ⟨⟨n + 1,_,rfl,hlt,he,s8⟩,by simp; omega⟩
          · rw [if_neg (by rw [d4]; exact Bool.false_ne_true)] at he
            exact ⟨⟨n + 1,_,rfl,hlt,he,s7⟩,by simp; omega⟩
        unfold sf
        refine ba (fun d4=>?_) (fun d4=>?_)
        · refine cT [1,2,1] (sp_judge_access b25 s z pk es k es[m] hb) s5 rfl fun r h6 s6=>?_
          obtain ⟨hr,s7⟩:=bp.1 s6
          subst hr
          have s8:aG [vI r27 (Hist.order es),blk b25 dp (jc s z pk),bn pk k,vE s es] h6:=bd [3,0,1] s7 rfl
          refine ba (fun d5=>?_) (fun d5=>?_)
          · rw [if_pos ⟨d4,by simpa using d5⟩] at he
            exact aX (by rw [← he,hm]) (fin _ s8)
          · exact j1 h6 (by simp; intro _; simpa using d5) s8
        · refine di rfl ?_
          exact j1 h (by rw [d4]; simp) s5
      · rw [if_neg (by rw [d3]; exact Bool.false_ne_true)] at he
        refine bk pk s5 (i:=1) rfl rfl rfl ?_
        refine bM (jQ pk k es[m].fEnv es[m].fCall) (i:=2) rfl s5 fun r h6 hr s6=>?_
        subst hr
        refine ba (fun d4=>?_) (fun d4=>?_)
        · have d4':lin = true∧((PK.do_ k es[m].fEnv es[m].fCall).1.2 = false∨ab.eqb (PK.do_ k es[m].fEnv es[m].fCall).1.1 es[m].fAnswer = false):=by simpa using d4
          rw [if_pos d4'] at he
          exact aX (by rw [← he,hm]) (cc (l:=[_,_,_]) s6)
        · have d4':¬ (lin = true∧((PK.do_ k es[m].fEnv es[m].fCall).1.2 = false∨ab.eqb (PK.do_ k es[m].fEnv es[m].fCall).1.1 es[m].fAnswer = false)):=by simpa using d4
          rw [if_neg d4'] at he
          rw [hw]
          exact ⟨⟨n + 1,_,rfl,hlt,he,s6⟩,by simp; omega⟩
    · have:n = (Hist.order es).length:=by rw [hrl] at d2; simp at d2; omega
      subst this
      rw [List.drop_length] at he
      exact aX he (fin h s5)
section
variable (s:Sl) (es:List bA) (z:eY) (hz:PK.sized z = true) (hb:es.length < 2 ^ 38) (ho:Hist.Apart es→OrdOk s es)
include hz hb ho
theorem sp_judge_Linear:Sp Tryz.prog oQ [sv s,.agg z.C.toArray] bL [vE s es] (fun r=>pa_ (r = Judge.linear es z) [vE s es]):=by
  intro h s0
  refine sim_judge_Linear _ _ ?_
  unfold sh_judge_Linear
  exact bM (sp_judge_run s es z true false hz hb ho) (i:=0) rfl s0 fun r h1 hr s1=>aX hr s1
theorem sp_judge_Access:Sp Tryz.prog oR [sv s,.agg z.C.toArray] bL [vE s es] (fun r=>pa_ (r = Judge.accesses es z) [vE s es]):=by
  intro h s0
  refine sim_judge_Access _ _ ?_
  unfold sh_judge_Access
  exact bM (sp_judge_run s es z false true hz hb ho) (i:=0) rfl s0 fun r h1 hr s1=>aX hr s1
theorem sp_judge_Right:Sp Tryz.prog qp [sv s,.agg z.C.toArray] aC [vE s es] (fun r=>pa_ (r = Judge.right es z) [vE s es]):=by
  intro h s0
  refine sim_judge_Right _ _ ?_
  unfold sh_judge_Right
  refine bM (sp_judge_Linear s es z hz hb ho) (i:=0) rfl s0 fun r h1 hr s1=>?_
  subst hr
  exact bM (sp_judge_Access s es z hz hb ho) (i:=0) rfl s1 fun r h2 hr s2=>aX (by rw [hr]; rfl) s2
end
end Go.Proofs.YtemoifebbhoinaaGreatDoor
namespace Go.Proofs.YtemoifebbhoinaaGreatDoor
open Go Mb
set_option linter.unusedVariables false
def tw (a0:Int) (Rec17:(Sl × Int)→Hp→Prop) (s16:Sl × Int) (x32:Int) (Rec26:(Sl × Int)→Hp→Prop) (s25:Sl × Int):Hp→Prop:=br (decide (s25.2 < a0)) ( hpv Tryz.prog (Instr.buildSlice nH 1 #[(0,(.agg (dR.C (⟨x32,s25.2,0,(⟨0,0,0,0,0⟩:ah),0,0⟩:dR)).toArray))]) og fun (v41:Sl)=>hpv Tryz.prog (Builtin.append_ #[nH,nH] nH #[(sv s25.1),(sv v41)]) og fun (v42:Sl)=>Rec26 (v42,(IntKind.i64.wrap (s25.2 + 1)))) ( Rec17 (s25.1,(IntKind.i64.wrap (s16.2 + 1))))
def tx (a0:Int) (Rec11:(Sl × Int)→Hp→Prop) (s10:Sl × Int) (v27:Sl) (Rec17:(Sl × Int)→Hp→Prop) (s16:Sl × Int):Hp→Prop:=br (decide (s16.2 < (v27.len:Int))) ( ix v27 s16.2 fun q31=>ld (q31.1,q31.2 + Int.toNat s16.2 * 1) (cI .i64) fun x32=>Lp (tw a0 Rec17 s16 x32) (s16.1,0)) ( Rec11 (s16.1,(IntKind.i64.wrap (s10.2 + 1))))
def tz (a0:Int) (a1:Int) (K:Sl→Hp→Prop) (Rec11:(Sl × Int)→Hp→Prop) (s10:Sl × Int):Hp→Prop:=br (decide (s10.2 < a1)) ( hpv Tryz.prog (Instr.buildSlice dI 2 #[(0,(.int .i64 3)),(1,(.int .i64 2))]) cu fun (v27:Sl)=>Lp (tx a0 Rec11 s10 v27) (s10.1,0)) ( K s10.1)
def sh_fair_Rounds (a0:Int) (a1:Int) (K:Sl→Hp→Prop):Hp→Prop:=br ((((decide (a0 < 1)) || (decide (a0 > 8))) || (decide (a1 < 0))) || (decide (a1 > 500))) ( K (⟨none,0,0,none⟩:Sl)) ( hpv Tryz.prog (Instr.buildSlice nH 0 #[]) og fun (v23:Sl)=>Lp (tz a0 a1 K) (v23,0))
theorem sim_fair_Rounds (a0:Int) (a1:Int) {K:Sl→Hp→Prop} {h:Hp} (H:sh_fair_Rounds a0 a1 K h):Ct Tryz.prog uS #[(.int .i64 a0),(.int .i64 a1)] h fun v h'=>∃ r,v = og r∧K r h':=aw [(.int .i64 a0),(.int .i64 a1)] Tryz.func49 c c c fun _=>M<|O c<|al<|M<|J c<|p (cC c c)<|J c<|V c c (aJ _) (fun g1=>wv<|ai c)<|V c c (aJ _) (fun g2=>wv<|qA (aD c g2) c)<|p (dm c c)<|J c<|V c c (aJ _) (fun g3=>wv<|ai c)<|V c c (aJ _) (fun g4=>wv<|cC (aD c g4) c)<|p (dm c c)<|J c<|V c c (aJ _) (fun g5=>wv<|ai c)<|V c c (aJ _) (fun g6=>wv<|qA (aD c g6) c)<|p (dm c c)<|ad<|av c H (fun k7 H8=>M<|O c<|aj<|Y ⟨(⟨none,0,0,none⟩:Sl),c,H8⟩) fun k7 H8=>ao<|M<|aa<|aS H8 (bo (vs:=[]) c) c fun v23 _ H9=>O c<|al<|M<|J c<|J c<|ad<|ay<|bE (step:=tz a0 a1 K) (fun s10=>[(0,(.int .i64 a0)),(5,(sv s10.1)),(24,(.int .i64 a1)),(25,(.int .i64 s10.2))]) (fun s10=>[]) H9 (.cons c<|.cons c<|.cons c<|.cons c<|.nil _) .slnil fun Rec11 s10 _ H12=>M<|p (cC c c)<|ad<|al<|av c H12 (fun k13 H14=>ao<|al<|ay<|M<|aa<|aS H14 (bo (vs:=[(.int .i64 3),(.int .i64 2)]) c) c fun v27 _ H15=>p (dA c Tryz.underlying39 c)<|J c<|ad<|ay<|bE (step:=tx a0 Rec11 s10 v27) (fun s16=>[(0,(.int .i64 a0)),(5,(sv s16.1)),(24,(.int .i64 a1)),(25,(.int .i64 s10.2)),(27,(sv v27)),(28,(.int .i64 (v27.len:Int))),(29,(.int .i64 s16.2))]) (fun s16=>[]) H15 (.cons c<|.cons c<|.cons c<|.cons c<|.cons c<|.cons c<|.cons c<|.nil _) .slnil fun Rec17 s16 _ H18=>M<|p (cC c c)<|ad<|al<|av c H18 (fun k19 H20=>ao<|al<|ay<|M<|ct H20 fun q31 e21 h22 H23=>p (bq iC (aN c<|bc e21) c h22)<|aa<|aW H23 bb c (fun _=>c) c fun x32 H24=>O c<|M<|J c<|J c<|ad<|ay<|bE (step:=tw a0 Rec17 s16 x32) (fun s25=>[(0,(.int .i64 a0)),(5,(sv s25.1)),(7,(.int .i64 x32)),(24,(.int .i64 a1)),(25,(.int .i64 s10.2)),(27,(sv v27)),(28,(.int .i64 (v27.len:Int))),(29,(.int .i64 s16.2)),(33,(.int .i64 a0)),(34,(.int .i64 s25.2))]) (fun s25=>[]) H24 (.cons c<|.cons c<|.cons c<|.cons c<|.cons c<|.cons c<|.cons c<|.cons c<|.cons c<|.cons c<|.nil _) .slnil fun Rec26 s25 _ H27=>M<|p (cC c c)<|ad<|al<|av c H27 (fun k28 H29=>ao<|al<|ay<|M<|J c<|O c<|ar<|J c<|J c<|J c<|p (aY c<|build_51_0_1 x32 s25.2)<|aa<|aS H29 (bo (vs:=[(.agg (dR.C (⟨x32,s25.2,0,(⟨0,0,0,0,0⟩:ah),0,0⟩:dR)).toArray)]) c) c fun v41 _ H30=>aa<|aS H30 (dH c c) c fun v42 _ H31=>O c<|ar<|p (bw c c)<|J c<|ad<|cR (v42,(IntKind.i64.wrap (s25.2 + 1))) H31 (.cons c<|.cons c<|.cons c<|.cons c<|.cons c<|.cons c<|.cons c<|.cons c<|.cons c<|.cons c<|.nil _) .slnil) fun k28 H29=>bj<|ar<|p (bw c c)<|J c<|ad<|cR (s25.1,(IntKind.i64.wrap (s16.2 + 1))) H29 (.cons c<|.cons c<|.cons c<|.cons c<|.cons c<|.cons c<|.cons c<|.nil _) .slnil) fun k19 H20=>bj<|ar<|p (bw c c)<|J c<|ad<|cR (s16.1,(IntKind.i64.wrap (s10.2 + 1))) H20 (.cons c<|.cons c<|.cons c<|.cons c<|.nil _) .slnil) fun k13 H14=>bj<|M<|J c<|O c<|aj<|Y ⟨s10.1,c,H14⟩
def rp (a0:Sl) (a1:Int) (a2:Int) (K:Int→Hp→Prop) (Rec2:(Int × Int × Int)→Hp→Prop) (s1:Int × Int × Int):Hp→Prop:=br (decide (s1.2.2 < (a0.len:Int))) ( ix a0 s1.2.2 fun q15=>ld (q15.1,q15.2 + Int.toNat s1.2.2 * 10) dR.C fun x16=>br ((x16.fKind == a1) && (x16.fCore == a2)) ( Rec2 ((mx s1.1 0),0,(IntKind.i64.wrap (s1.2.2 + 1)))) ( Rec2 ((mx s1.1 (IntKind.i64.wrap (s1.2.1 + 1))),(IntKind.i64.wrap (s1.2.1 + 1)),(IntKind.i64.wrap (s1.2.2 + 1))))) ( K s1.1)
def sh_fair_Longest (a0:Sl) (a1:Int) (a2:Int) (K:Int→Hp→Prop):Hp→Prop:=Lp (rp a0 a1 a2 K) (0,0,0)
theorem sim_fair_Longest (a0:Sl) (a1:Int) (a2:Int) {K:Int→Hp→Prop} {h:Hp} (H:sh_fair_Longest a0 a1 a2 K h):Ct Tryz.prog oT #[(sv a0),(.int .i64 a1),(.int .i64 a2)] h fun v h'=>∃ r,v = eB r∧K r h':=aw [(sv a0),(.int .i64 a1),(.int .i64 a2)] Tryz.func101 c c c fun _=>M<|O c<|M<|p (au c)<|O c<|al<|M<|J c<|p (dA c Tryz.underlying45 c)<|J c<|ad<|ay<|bE (step:=rp a0 a1 a2 K) (fun s1=>[(1,(.int .i64 a1)),(2,(.int .i64 a2)),(7,(.int .i64 s1.1)),(8,(.int .i64 s1.2.1)),(11,(sv a0)),(12,(.int .i64 (a0.len:Int))),(13,(.int .i64 s1.2.2))]) (fun s1=>[]) H (.cons c<|.cons c<|.cons c<|.cons c<|.cons c<|.cons c<|.cons c<|.nil _) .slnil fun Rec2 s1 _ H3=>M<|p (cC c c)<|ad<|al<|av c H3 (fun k4 H5=>ao<|al<|ay<|M<|ct H5 fun q15 e6 h7 H8=>p (bq slc_45 (aN c<|bc e6) c h7)<|aa<|gT H8 ag_51 c (fun _=>c) c fun x16 H9=>aa<|aI (l:=dR.C (⟨0,0,0,(⟨0,0,0,0,0⟩:ah),0,0⟩:dR)) zero_51 c c fun b10=>aa<|aO (k:=0) (vs:=dR.C x16) inf_51 c c c c c c c<|ad<|M<|J c<|p (bw c c)<|O c<|al<|M<|p (ae fld_51_0 c)<|bi (bf (k:=0) bb c c c) c<|J c<|p (bO c c)<|J c<|V c c (az _) (fun g10=>wv<|ae fld_51_1 c)<|V c c (az _) (fun g11=>cv<|bf (k:=0) bb (aD c g11) c c)<|V c c (az _) (fun g12=>wv<|ai c)<|V c c (az _) (fun g13=>wv<|bO (aD c g13)<|aD c g13)<|p (bS c c)<|ad<|av c H9 (fun k14 H15=>ar<|O c<|ar<|J c<|J c<|p (v_maxT c c)<|O c<|ar<|p (bw c c)<|J c<|ad<|cR ((mx s1.1 0),0,(IntKind.i64.wrap (s1.2.2 + 1))) H15 (.cons c<|.cons c<|.cons c<|.cons c<|.cons c<|.cons c<|.cons c<|.nil _)<|.cons _ .slnil) fun k14 H15=>ao<|ar<|J c<|J c<|p (v_maxT c c)<|O c<|ar<|p (bw c c)<|J c<|ad<|cR ((mx s1.1 (IntKind.i64.wrap (s1.2.1 + 1))),(IntKind.i64.wrap (s1.2.1 + 1)),(IntKind.i64.wrap (s1.2.2 + 1))) H15 (.cons c<|.cons c<|.cons c<|.cons c<|.cons c<|.cons c<|.cons c<|.nil _)<|.cons _ .slnil) fun k4 H5=>bj<|M<|J c<|O c<|aj<|Y ⟨s1.1,c,H5⟩
def xm (a0:Sl) (a1:Int) (a2:Int) (K:Bool→Hp→Prop) (Rec2:Int→Hp→Prop) (s1:Int):Hp→Prop:=br (decide (s1 < a1)) ( cl Tryz.prog oT [(sv a0),(.int .i64 2),(.int .i64 s1)] eB fun r14=>br (!(decide (r14 ≥ a2))) ( cl Tryz.prog oT [(sv a0),(.int .i64 3),(.int .i64 s1)] eB fun r20=>br (decide (r20 ≥ a2)) ( K false) ( Rec2 (IntKind.i64.wrap (s1 + 1)))) ( K false)) ( K true)
def sh_fair_Fair (a0:Sl) (a1:Int) (a2:Int) (K:Bool→Hp→Prop):Hp→Prop:=Lp (xm a0 a1 a2 K) 0
theorem sim_fair_Fair (a0:Sl) (a1:Int) (a2:Int) {K:Bool→Hp→Prop} {h:Hp} (H:sh_fair_Fair a0 a1 a2 K h):Ct Tryz.prog n_fair_Fair #[(sv a0),(.int .i64 a1),(.int .i64 a2)] h fun v h'=>∃ r,v = aC r∧K r h':=aw [(sv a0),(.int .i64 a1),(.int .i64 a2)] Tryz.func51 c c c fun _=>M<|O c<|al<|M<|J c<|J c<|ad<|ay<|bE (step:=xm a0 a1 a2 K) (fun s1=>[(0,(sv a0)),(2,(.int .i64 a2)),(8,(.int .i64 a1)),(9,(.int .i64 s1))]) (fun s1=>[]) H (.cons c<|.cons c<|.cons c<|.cons c<|.nil _) .slnil fun Rec2 s1 _ H3=>M<|p (cC c c)<|ad<|al<|av c H3 (fun k4 H5=>ao<|al<|ay<|M<|J c<|O c<|M<|J c<|J c<|aa<|Z H5 en_101 fun r14 _ H6=>J c<|p (jN c c)<|J c<|V c c (aJ _) (fun g7=>wv<|ai c)<|V c c (aJ _) (fun g8=>wv<|ai c)<|bU H6 (fun k10 H11=>F (D<|ch k10)<|gw H11 en_101 (aT (aD c k10)<|aT c<|aT (aD c k10) bQ) c fun r20 _ H12=>F (D<|ch k10)<|R (ai c)<|F (D<|ch k10)<|R (jN c c)<|p (aq c (ch k10) c)<|ad<|av c H12 (fun k13 H14=>M<|O c<|aj<|Y ⟨false,c,H14⟩) fun k13 H14=>ao<|ar<|p (bw c c)<|J c<|ad<|cR (IntKind.i64.wrap (s1 + 1)) H14 (.cons c<|.cons c<|.cons c<|.cons c<|.nil _) .slnil) fun k10 H11=>W (cd<|bJ k10)<|W (cd<|bJ k10)<|W (cd<|bJ k10)<|p (aU c (bJ k10) c)<|ad<|mB c c<|M<|O c<|aj<|Y ⟨false,c,H11⟩) fun k4 H5=>bj<|M<|O c<|aj<|Y ⟨true,c,H5⟩
end Go.Proofs.YtemoifebbhoinaaGreatDoor
namespace Go.Proofs.YtemoifebbhoinaaGreatDoor
open Go Mb
abbrev Pick:=dR
abbrev vK (s:Sl) (xs:List Pick):As:=vec t_api_Pick 10 dR.C s xs
theorem pick_len (p:Pick):p.C.length = 10:=rfl
theorem pick_one (p:Pick):dJ p.C = true:=rfl
namespace Fair
def longFrom (kind core:Int):List Pick→Int→Int→Int
  | [],best,_=>best
  | p::ps,best,now=>if p.fKind = kind∧p.fCore = core then longFrom kind core ps (mx best 0) 0 else longFrom kind core ps (mx best (IntKind.i64.wrap (now + 1))) (IntKind.i64.wrap (now + 1))
def longest (ps:List Pick) (kind core:Int):Int:=longFrom kind core ps 0 0
def okCore (ps:List Pick) (b:Int) (c:Nat):Bool:=decide (longest ps 2 c < b) && decide (longest ps 3 c < b)
def fair (ps:List Pick) (cores b:Int):Bool:=(List.range cores.toNat).all (okCore ps b)
def pk (kind:Int) (c:Nat):Pick:=⟨kind,c,0,⟨0,0,0,0,0⟩,0,0⟩
def line (kind:Int) (c:Nat):List Pick:=(List.range c).map (pk kind)
def lines (c:Nat) (kinds:List Int):List Pick:=kinds.flatMap fun k=>line k c
def turns (c n:Nat):List Pick:=(List.range n).flatMap fun _=>lines c [3,2]
def rounds (cores n:Int):List Pick:=if cores < 1∨cores > 8∨n < 0∨n > 500 then [] else turns cores.toNat n.toNat
theorem line_len (kind:Int) (c:Nat):(line kind c).length = c:=by simp [line]
theorem line_succ (kind:Int) (c:Nat):line kind (c + 1) = line kind c++[pk kind c]:=by simp [line,List.range_succ]
theorem turns_succ (c n:Nat):turns c (n + 1) = turns c n++lines c [3,2]:=by simp [turns,List.range_succ]
theorem lines_len (c:Nat):∀ (ks:List Int),(lines c ks).length = ks.length * c
  | []=>by simp [lines]
  | k::ks=>by
    have:=lines_len c ks
    simp only [lines,List.flatMap_cons,List.length_append,line_len,List.length_cons,Nat.succ_mul] at this ⊢
    omega
theorem turns_len (c n:Nat):(turns c n).length = n * (2 * c):=by
  induction n with
  | zero=>simp [turns]
  | succ n ih=>rw [turns_succ,List.length_append,ih,lines_len,Nat.add_mul n 1,Nat.one_mul]; rfl
end Fair
theorem sp_fair_Longest (s:Sl) (ps:List Pick) (kind core:Int) (hb:ps.length < 2 ^ 40):Sp Tryz.prog oT [sv s,.int .i64 kind,.int .i64 core] eB [vK s ps] (fun r=>pa_ (r = Fair.longest ps kind core) [vK s ps]):=by
  intro h s0
  have hl:=(cj (j:=0) s0 rfl).1
  refine sim_fair_Longest _ _ _ ?_
  unfold sh_fair_Longest
  refine Lp.intro (fun (z:Int × Int × Int) h=>∃ n:Nat,z.2.2 = n∧n ≤ ps.length∧Fair.longFrom kind core (ps.drop n) z.1 z.2.1 = Fair.longest ps kind core∧aG [vK s ps] h) (fun (z:Int × Int × Int) _=>ps.length - z.2.2.toNat) ⟨0,rfl,Nat.zero_le _,rfl,s0⟩ ?_
  rintro ⟨best,now,i⟩ h ⟨n,rfl,hn,he,s1⟩
  unfold rp
  simp only at he ⊢
  refine ba (fun k=>?_) (fun k=>?_)
  · have hlt:n < ps.length:=by rw [hl] at k; simpa using k
    have hw:IntKind.i64.wrap ((n:Int) + 1) = ((n + 1:Nat):Int):=by rw [bR (by omega) (by omega)]; rfl
    rw [List.drop_eq_getElem_cons hlt,Fair.longFrom] at he
    refine dC s1 (j:=0) rfl (by omega) (by omega) fun q hq=>?_
    refine eE (j:=0) (i:=n) (k:=0) ps[n] pick_len s1 rfl hq rfl (aH hlt) (by simp) ?_
    rw [hw]
    refine ba (fun k2=>?_) (fun k2=>?_)
    · have k2':ps[n].fKind = kind∧ps[n].fCore = core:=by simpa using k2
      rw [if_pos k2'] at he
      exact ⟨⟨n + 1,rfl,hlt,he,s1⟩,by simp; omega⟩
    · have k2':¬ (ps[n].fKind = kind∧ps[n].fCore = core):=by simpa using k2
      rw [if_neg k2'] at he
      exact ⟨⟨n + 1,rfl,hlt,he,s1⟩,by simp; omega⟩
  · have:n = ps.length:=by rw [hl] at k; simp at k; omega
    subst this
    rw [List.drop_length] at he
    exact aX he s1
theorem sp_fair_Fair (s:Sl) (ps:List Pick) (cores b:Int) (hb:ps.length < 2 ^ 40) (hc:cores < 2 ^ 62):Sp Tryz.prog n_fair_Fair [sv s,.int .i64 cores,.int .i64 b] aC [vK s ps] (fun r=>pa_ (r = Fair.fair ps cores b) [vK s ps]):=by
  intro h s0
  refine sim_fair_Fair _ _ _ ?_
  unfold sh_fair_Fair
  refine Lp.intro (fun (i:Int) h=>∃ n:Nat,i = n∧n ≤ cores.toNat∧(∀ c,c < n→Fair.okCore ps b c = true)∧aG [vK s ps] h) (fun (i:Int) _=>cores.toNat - i.toNat) ⟨0,rfl,Nat.zero_le _,fun c hc=>by omega,s0⟩ ?_
  rintro i h ⟨n,rfl,hn,ho,s1⟩
  unfold xm
  refine ba (fun k=>?_) (fun k=>?_)
  · have hlt:n < cores.toNat:=by have:=of_decide_eq_true k; omega
    have hw:IntKind.i64.wrap ((n:Int) + 1) = ((n + 1:Nat):Int):=by rw [bR (by omega) (by omega)]; rfl
    have no:Fair.okCore ps b n = false→Fair.fair ps cores b = false:=fun hf=>by
      unfold Fair.fair
      cases ha:(List.range cores.toNat).all (Fair.okCore ps b) with
      | false=>rfl
      | true=>rw [List.all_eq_true.1 ha n (List.mem_range.2 hlt)] at hf; cases hf
    refine bM (sp_fair_Longest s ps 2 n hb) (i:=0) rfl s1 fun r h2 hr s2=>?_
    subst hr
    refine ba (fun k2=>?_) (fun k2=>?_)
    · have k2':Fair.longest ps 2 n < b:=by simpa using k2
      refine bM (sp_fair_Longest s ps 3 n hb) (i:=0) rfl s2 fun r h3 hr s3=>?_
      subst hr
      refine ba (fun k3=>?_) (fun k3=>?_)
      · have k3':¬ Fair.longest ps 3 n < b:=by simp at k3; omega
        exact aX (no (by simp [Fair.okCore,k3'])).symm s3
      · have k3':Fair.longest ps 3 n < b:=by simp at k3; omega
        rw [hw]
        refine ⟨⟨n + 1,rfl,hlt,fun c hc=>?_,s3⟩,by simp; omega⟩
        by_cases e:c = n
        · subst e; simp [Fair.okCore,k2',k3']
        · exact ho c (by omega)
    · have k2':¬ Fair.longest ps 2 n < b:=by simp at k2; omega
      exact aX (no (by simp [Fair.okCore,k2'])).symm s2
  · have:n = cores.toNat:=by have:=of_decide_eq_false k; omega
    subst this
    refine aX ?_ s1
    unfold Fair.fair
    exact (List.all_eq_true.2 fun c hc=>ho c (List.mem_range.1 hc)).symm
theorem sp_fair_Rounds (cores n:Int):Sp Tryz.prog uS [.int .i64 cores,.int .i64 n] og [] (fun r=>aG [vK r (Fair.rounds cores n)]):=by
  intro h s0
  refine sim_fair_Rounds _ _ ?_
  unfold sh_fair_Rounds
  refine ba (fun k=>?_) (fun k=>?_)
  · have e1:Fair.rounds cores n = []:=if_pos (by simpa [or_assoc] using k)
    rw [e1]; exact fN s0
  · have k':¬ (cores < 1∨cores > 8∨n < 0∨n > 500):=by simp at k; omega
    have e1:Fair.rounds cores n = Fair.turns cores.toNat n.toNat:=if_neg k'
    rw [e1]
    obtain ⟨C,rfl⟩:=Int.eq_ofNat_of_zero_le (show 0 ≤ cores by omega)
    obtain ⟨N,rfl⟩:=Int.eq_ofNat_of_zero_le (show 0 ≤ n by omega)
    simp only [Int.toNat_natCast]
    refine eS (τ:=Pick) [] (val:=fun x=>.agg x.C.toArray) (enc:=dR.C) el_Sapi_Pick pick_len (fun _=>rfl) s0 rfl rfl (by simp) fun v h1 s1=>?_
    refine Lp.intro (fun (z:Sl × Int) h=>∃ j:Nat,z.2 = j∧j ≤ N∧aG [vK z.1 (Fair.turns C j)] h) (fun (z:Sl × Int) _=>N - z.2.toNat) ⟨0,rfl,Nat.zero_le _,s1⟩ ?_
    rintro ⟨z,i⟩ h ⟨j,rfl,hj,s2⟩
    unfold tz
    refine ba (fun k2=>?_) (fun k2=>?_)
    · have hlt:j < N:=by have:=of_decide_eq_true k2; simp at this; exact this
      have hw:IntKind.i64.wrap ((j:Int) + 1) = ((j + 1:Nat):Int):=by rw [bR (by omega) (by omega)]; rfl
      have htl:=Fair.turns_len C j
      have hC:C ≤ 8:=by omega
      have hjb:j * (2 * C) ≤ 500 * 16:=Nat.mul_le_mul (by omega) (by omega)
      refine eS (τ:=Int) [3,2] (val:=fun x=>.int .i64 x) (enc:=cI .i64) el_Sint (dl _) (fun _=>rfl) s2 rfl rfl (by decide) fun vk h3 s3=>?_
      have hvl:=(cj (j:=0) s3 rfl).1
      refine Lp.intro (fun (y:Sl × Int) h=>∃ m:Nat,y.2 = m∧m ≤ 2∧aG [vK y.1 (Fair.turns C j++Fair.lines C (([3,2]:List Int).take m)),vec kW 1 (cI .i64) vk [3,2]] h) (fun (y:Sl × Int) _=>2 - y.2.toNat) ⟨0,rfl,Nat.zero_le _,by
        have s4:=bd (m:=[vK z (Fair.turns C j),vec kW 1 (cI .i64) vk [3,2]]) [1] s3 rfl
        simpa [Fair.lines] using s4⟩ ?_
      rintro ⟨y,i2⟩ h ⟨m,rfl,hm,s4⟩
      unfold tx
      refine ba (fun k3=>?_) (fun k3=>?_)
      · have hlt2:m < 2:=by rw [hvl] at k3; have:=of_decide_eq_true k3; simp at this; omega
        have hw2:IntKind.i64.wrap ((m:Int) + 1) = ((m + 1:Nat):Int):=by rw [bR (by omega) (by omega)]; rfl
        have hkl:m < ([3,2]:List Int).length:=hlt2
        refine dC s4 (j:=1) rfl (by omega) (by simp; omega) fun q hq=>?_
        refine eE (j:=1) (i:=m) (k:=0) ([3,2]:List Int)[m] (dl _) s4 rfl hq (by simp) (aH hkl) (by simp) ?_
        have hll:=Fair.lines_len C (([3,2]:List Int).take m)
        have hlb:(([3,2]:List Int).take m).length * C ≤ 2 * 8:=Nat.mul_le_mul (by simp; omega) (by omega)
        refine Lp.intro (fun (x:Sl × Int) h=>∃ p:Nat,x.2 = p∧p ≤ C∧aG [vK x.1 (Fair.turns C j++Fair.lines C (([3,2]:List Int).take m)++Fair.line ([3,2]:List Int)[m] p),vec kW 1 (cI .i64) vk [3,2]] h) (fun (x:Sl × Int) _=>C - x.2.toNat) ⟨0,rfl,Nat.zero_le _,by simpa [Fair.line] using s4⟩ ?_
        rintro ⟨x,i3⟩ h ⟨p,rfl,hp,s5⟩
        have hpl:=Fair.line_len ([3,2]:List Int)[m] p
        unfold tw
        refine ba (fun k4=>?_) (fun k4=>?_)
        · have hlt3:p < C:=by have:=of_decide_eq_true k4; simp at this; exact this
          have hw3:IntKind.i64.wrap ((p:Int) + 1) = ((p + 1:Nat):Int):=by rw [bR (by omega) (by omega)]; rfl
          refine kH (τ:=Pick) (i:=0) (enc:=dR.C) (val:=fun x=>.agg x.C.toArray) (x:=Fair.pk ([3,2]:List Int)[m] p) el_Sapi_Pick pick_len pick_one (fun _=>rfl) (by omega) rfl rfl s5 rfl (by simp only [List.length_append]; omega) (by simp only [List.length_append]; omega) fun v h6 s6=>?_
          rw [hw3]
          refine ⟨⟨p + 1,rfl,hlt3,?_⟩,by simp; omega⟩
          rw [Fair.line_succ,← List.append_assoc]
          exact s6
        · have:p = C:=by have:=of_decide_eq_false k4; simp at this; omega
          subst this
          rw [hw2]
          refine ⟨⟨m + 1,rfl,hlt2,?_⟩,by simp; omega⟩
          have et:([3,2]:List Int).take (m + 1) = ([3,2]:List Int).take m++[([3,2]:List Int)[m]]:=by rw [List.take_add_one,aH hkl]; rfl
          have el:Fair.lines p (([3,2]:List Int).take (m + 1)) = Fair.lines p (([3,2]:List Int).take m)++Fair.line ([3,2]:List Int)[m] p:=by
            rw [et]; unfold Fair.lines; rw [List.flatMap_append]; simp
          rw [el,← List.append_assoc]
          exact s5
      · have:m = 2:=by rw [hvl] at k3; have:=of_decide_eq_false k3; simp at this; omega
        subst this
        rw [hw]
        refine ⟨⟨j + 1,rfl,hlt,?_⟩,by simp; omega⟩
        rw [Fair.turns_succ]
        exact nI (l:=[vK y (Fair.turns C j++Fair.lines C [3,2])]) s4
    · have:j = N:=by have:=of_decide_eq_false k2; simp at this; omega
      subst this
      exact s2
end Go.Proofs.YtemoifebbhoinaaGreatDoor
namespace Go.Proofs.YtemoifebbhoinaaGreatDoor
open Go Mb
set_option linter.unusedVariables false
def wm (a0:Sl) (a1:Int) (K:Sl→Hp→Prop) (Rec2:(Sl × Int)→Hp→Prop) (s1:Sl × Int):Hp→Prop:=br (decide (s1.2 < (a0.len:Int))) ( ix a0 s1.2 fun q12=>ld (q12.1,q12.2 + Int.toNat s1.2 * 16) aE.C fun x13=>br ((x13.fEnv == a1) && (decide (x13.fEnd > 0))) ( hpv Tryz.prog (Instr.buildSlice mL 1 #[(0,(.agg (ab.C x13.fAnswer).toArray))]) mV fun (v26:Sl)=>hpv Tryz.prog (Builtin.append_ #[mL,mL] mL #[(sv s1.1),(sv v26)]) mV fun (v27:Sl)=>Rec2 (v27,(IntKind.i64.wrap (s1.2 + 1)))) ( Rec2 (s1.1,(IntKind.i64.wrap (s1.2 + 1))))) ( K s1.1)
def sh_twin_View (a0:Sl) (a1:Int) (K:Sl→Hp→Prop):Hp→Prop:=Lp (wm a0 a1 K) ((⟨none,0,0,none⟩:Sl),0)
theorem sim_twin_View (a0:Sl) (a1:Int) {K:Sl→Hp→Prop} {h:Hp} (H:sh_twin_View a0 a1 K h):Ct Tryz.prog n_twin_View #[(sv a0),(.int .i64 a1)] h fun v h'=>∃ r,v = mV r∧K r h':=aw [(sv a0),(.int .i64 a1)] Tryz.func52 c c c fun _=>M<|O c<|M<|O c<|al<|M<|J c<|p (dA c Tryz.underlying42 c)<|J c<|ad<|ay<|bE (step:=wm a0 a1 K) (fun s1=>[(1,(.int .i64 a1)),(5,(sv s1.1)),(8,(sv a0)),(9,(.int .i64 (a0.len:Int))),(10,(.int .i64 s1.2))]) (fun s1=>[]) H (.cons c<|.cons c<|.cons c<|.cons c<|.cons c<|.nil _) .slnil fun Rec2 s1 _ H3=>M<|p (cC c c)<|ad<|al<|av c H3 (fun k4 H5=>ao<|al<|ay<|M<|ct H5 fun q12 e6 h7 H8=>p (bq sM (aN c<|bc e6) c h7)<|aa<|gT H8 ag_56 c (fun _=>c) c fun x13 H9=>aa<|aI (l:=aE.C (⟨0,0,(⟨0,0,0,0,0⟩:ah),0,0,0,(⟨0,0⟩:ab),(⟨0,0,0,0⟩:an)⟩:aE)) zero_56 c c fun b7=>aa<|aO (k:=0) (vs:=aE.C x13) inf_56 c c c c c c c<|ad<|M<|p (ae oX c)<|bi (bf (k:=0) bb c c c) c<|J c<|p (bO c c)<|J c<|V c c (az _) (fun g10=>wv<|ae qW c)<|V c c (az _) (fun g11=>cv<|bf (k:=0) bb (aD c g11) c c)<|V c c (az _) (fun g12=>wv<|qA (aD c g12) c)<|p (bS c c)<|ad<|av c H9 (fun k13 H14=>ar<|J c<|p (ae kA c)<|bi (bC (k:=0) cH c c c c) c<|aa<|aS H14 (bo (vs:=[(.agg (ab.C x13.fAnswer).toArray)]) c) c fun v26 _ H15=>aa<|aS H15 (dH c c) c fun v27 _ H16=>O c<|ar<|p (bw c c)<|J c<|ad<|cR (v27,(IntKind.i64.wrap (s1.2 + 1))) H16 (.cons c<|.cons c<|.cons c<|.cons c<|.cons c<|.nil _)<|.cons _ .slnil) fun k13 H14=>ao<|ar<|p (bw c c)<|J c<|ad<|cR (s1.1,(IntKind.i64.wrap (s1.2 + 1))) H14 (.cons c<|.cons c<|.cons c<|.cons c<|.cons c<|.nil _)<|.cons _ .slnil) fun k4 H5=>bj<|M<|J c<|O c<|aj<|Y ⟨s1.1,c,H5⟩
end Go.Proofs.YtemoifebbhoinaaGreatDoor
namespace Go.Proofs.YtemoifebbhoinaaGreatDoor
open Go Mb
abbrev vA (s:Sl) (xs:List eM):As:=vec t_api_Answer 2 ab.C s xs
theorem ans_len (p:eM):p.C.length = 2:=rfl
theorem ans_one (p:eM):dJ p.C = true:=rfl
namespace Twin
def view (env:Int):List bA→List eM
  | []=>[]
  | e::es=>if e.fEnv = env∧e.fEnd > 0 then e.fAnswer::view env es else view env es
def same:List eM→List eM→Bool
  | [],[]=>true
  | a::l,b::r=>ab.eqb a b && same l r
  | _,_=>false
theorem view_app (env:Int) (e:bA):∀ es,view env (es++[e]) = view env es++(if e.fEnv = env∧e.fEnd > 0 then [e.fAnswer] else [])
  | []=>by simp only [List.nil_append,view]
  | d::es=>by
    simp only [List.cons_append,view,view_app env e es]
    split <;> simp
theorem view_len (env:Int):∀ es,(view env es).length ≤ es.length
  | []=>Nat.le_refl _
  | e::es=>by unfold view; have:=view_len env es; split <;> simp <;> omega
end Twin
theorem sp_twin_View (s:Sl) (es:List bA) (env:Int) (hb:es.length < 2 ^ 38):Sp Tryz.prog n_twin_View [sv s,.int .i64 env] mV [vE s es] (fun r=>aG [vA r (Twin.view env es),vE s es]):=by
  intro h s0
  have hl:=(cj (j:=0) s0 rfl).1
  refine sim_twin_View _ _ ?_
  unfold sh_twin_View
  refine Lp.intro (fun (z:Sl × Int) h=>∃ n:Nat,z.2 = n∧n ≤ es.length∧aG [vA z.1 (Twin.view env (es.take n)),vE s es] h) (fun (z:Sl × Int) _=>es.length - z.2.toNat) ⟨0,rfl,Nat.zero_le _,fN s0⟩ ?_
  rintro ⟨z,i⟩ h ⟨n,rfl,hn,s1⟩
  unfold wm
  refine ba (fun k=>?_) (fun k=>?_)
  · have hlt:n < es.length:=by rw [hl] at k; simpa using k
    have hw:IntKind.i64.wrap ((n:Int) + 1) = ((n + 1:Nat):Int):=by rw [bR (by omega) (by omega)]; rfl
    have ht:es.take (n + 1) = es.take n++[es[n]]:=by simp
    refine dC s1 (j:=1) rfl (by omega) (by show (n:Int) < _; omega) fun q hq=>?_
    refine eE (j:=1) (i:=n) (k:=0) es[n] nB s1 rfl hq rfl (aH hlt) (by simp) ?_
    rw [hw]
    refine ba (fun k2=>?_) (fun k2=>?_)
    · have k2':es[n].fEnv = env∧es[n].fEnd > 0:=by simpa using k2
      have hvl:=Twin.view_len env (es.take n)
      simp at hvl
      refine kH (τ:=eM) (i:=0) (enc:=ab.C) (val:=fun x=>.agg x.C.toArray) el_Sapi_Answer ans_len ans_one (fun _=>rfl) (by omega) rfl rfl s1 rfl (by omega) (by omega) fun v h2 s2=>?_
      refine ⟨⟨n + 1,rfl,hlt,?_⟩,by simp; omega⟩
      rw [ht,Twin.view_app,if_pos k2']
      exact s2
    · have k2':¬ (es[n].fEnv = env∧es[n].fEnd > 0):=by simpa using k2
      refine ⟨⟨n + 1,rfl,hlt,?_⟩,by simp; omega⟩
      rw [ht,Twin.view_app,if_neg k2',List.append_nil]
      exact s1
  · have:n = es.length:=by rw [hl] at k; simp at k; omega
    subst this
    rw [List.take_length] at s1
    exact s1
end Go.Proofs.YtemoifebbhoinaaGreatDoor
namespace Go.Proofs.YtemoifebbhoinaaGreatDoor
open Go Mb
variable {ET:Nat} {EF:Nat × Nat}
theorem kern_nn {l:List As} {h:Hp} {x:Ptr} {k:KK} (s:aG (cF x k::l) h):x.isNone = false:=nn_of (fun _ e=>by rw [e.1]; rfl) s
namespace B16
abbrev sz:eY:=⟨2,2,3⟩
def r1:=KK.run (KK.new ⟨2,2,3⟩) 0 0 ⟨1,1,0,0,0⟩
def r2:=KK.run r1.2 0 0 ⟨6,4,1,3,0⟩
def r3:=KK.run r2.2 1 0 ⟨21,4,2,9,0⟩
def r4:=KK.run r3.2 0 0 ⟨20,4,2,0,0⟩
def r5:=KK.run r4.2 0 0 ⟨7,4,0,0,0⟩
def es:=r5.2.events
theorem es_len:es.length = 5:=by kernel_rfl
theorem apart:Hist.may es sz = true:=by kernel_rfl
theorem now1:r1.2.now < 1000:=of_decide_eq_true (by kernel_rfl)
theorem now2:r2.2.now < 1000:=of_decide_eq_true (by kernel_rfl)
theorem now3:r3.2.now < 1000:=of_decide_eq_true (by kernel_rfl)
theorem now4:r4.2.now < 1000:=of_decide_eq_true (by kernel_rfl)
theorem now5:r5.2.now < 1000:=of_decide_eq_true (by kernel_rfl)
theorem lin:Judge.linear es sz = (-1,true):=by kernel_rfl
theorem acc:Judge.accesses es sz = (-1,true):=by kernel_rfl
theorem rgt:Judge.right es sz = true:=by kernel_rfl
end B16
theorem ord20 {es:List bA} (s:Sl) (h:es.length ≤ 20):Hist.Apart es→OrdOk s es:=fun ha=>sp_hist_Order20 s es h ha
theorem sp_begun16:Sp Tryz.prog kN [] aC [(etB ET EF)] (fun r=>pa_ (r = true) [(etB ET EF)]):=by
  intro h st
  refine vj ?_
  unfold oD
  refine lL (sp_kern_New ⟨2,2,3⟩ (by decide)) st fun x h1 s1=>?_
  refine di (kern_nn s1) ?_
  refine bM (i:=0) (sL x _ 0 0 ⟨1,1,0,0,0⟩ (by decide)) rfl s1 fun a1 h2 e1 s2=>?_
  refine bM (i:=0) (sL x B16.r1.2 0 0 ⟨6,4,1,3,0⟩ (by have:=B16.now1; omega)) rfl s2 fun a2 h3 e2 s3=>?_
  refine bM (i:=0) (sL x B16.r2.2 1 0 ⟨21,4,2,9,0⟩ (by have:=B16.now2; omega)) rfl s3 fun a3 h4 e3 s4=>?_
  refine bM (i:=0) (sL x B16.r3.2 0 0 ⟨20,4,2,0,0⟩ (by have:=B16.now3; omega)) rfl s4 fun a4 h5 e4 s5=>?_
  refine bM (i:=0) (sL x B16.r4.2 0 0 ⟨7,4,0,0,0⟩ (by have:=B16.now4; omega)) rfl s5 fun a5 h6 e5 s6=>?_
  refine uY (i:=0) (sI x B16.r5.2 (by have:=B16.now5; omega)) rfl s6 fun s h7 s7=>?_
  have hes:B16.es.length < 2 ^ 38:=by rw [B16.es_len]; decide
  have hes20:B16.es.length ≤ 20:=by rw [B16.es_len]; decide
  refine bM (i:=0) (sp_judge_Linear s B16.es B16.sz (by decide) hes (ord20 s hes20)) rfl s7 fun r1 h8 f1 s8=>?_
  refine bM (i:=0) (sp_judge_Access s B16.es B16.sz (by decide) hes (ord20 s hes20)) rfl s8 fun r2 h9 f2 s9=>?_
  refine lL (sp_fair_Rounds 2 3) s9 fun t h10 s10=>?_
  refine bM (i:=3) sp_Begun11 rfl s10 fun r3 h11 f3 s11=>?_
  have hl:((s.len:Int) == 5) = true:=by rw [(cj (j:=1) s11 rfl).1]; kernel_rfl
  have htl:((t.len:Int) == 12) = true:=by rw [(cj (j:=0) s11 rfl).1]; kernel_rfl
  have g1:a1 = B16.r1.1:=e1.1
  have g2:a2 = B16.r2.1:=e2.1
  have g3:a3 = B16.r3.1:=e3.1
  have g4:a4 = B16.r4.1:=e4.1
  have g5:a5 = B16.r5.1:=e5.1
  rw [B16.lin] at f1
  rw [B16.acc] at f2
  rw [f1,f2,f3,g1,g2,g3,g4,g5,hl]
  refine dG (by kernel_rfl) ?_
  refine bM (i:=1) (sp_hist_May s B16.es B16.sz hes) rfl s11 fun r4 h12 f4 s12=>?_
  refine dG (f4.trans B16.apart) ?_
  refine uY (i:=1) (sp_hist_Order20 s B16.es hes20 (Hist.may_apart B16.apart)) rfl s12 fun o h13 s13=>?_
  have hol:((o.len:Int) == 5) = true:=by rw [(cj (j:=0) s13 rfl).1]; kernel_rfl
  refine dG (by rw [hol,htl]; rfl) ?_
  refine bM (i:=1) (sp_fair_Fair t _ 2 5 (by decide) (by decide)) rfl s13 fun r5 h14 f5 s14=>?_
  refine dG (f5.trans (by kernel_rfl)) ?_
  refine uY (i:=2) (sp_twin_View s B16.es 0 hes) rfl s14 fun v h15 s15=>?_
  have hvl:((v.len:Int) == 5) = true:=by rw [(cj (j:=0) s15 rfl).1]; kernel_rfl
  refine dG hvl ?_
  refine bM (i:=3) (sp_judge_Right s B16.es B16.sz (by decide) hes (ord20 s hes20)) rfl s15 fun r6 h16 f6 s16=>?_
  exact aX (f6.trans B16.rgt) (cc (l:=[_,_,_,_,_]) s16)
end Go.Proofs.YtemoifebbhoinaaGreatDoor
namespace Go.Proofs.YtemoifebbhoinaaGreatDoor
open Go Mb Go.ChangeShapes Go.WideShapes Go.RowKit
theorem Tryz.own:ownKnob Tryz.prog.godebug = none:=by kernel_rfl
theorem Tryz.et:Tryz.prog.globalNamed "errors.errorType" = some 0:=by kernel_rfl
theorem Tryz.rt:(Tryz.prog.cutTypes.find? (·.1 == "internal/reflectlite.rtype")).map (·.2) = some rv:=by kernel_rfl
abbrev laid:List (String × DataW Unit) := [("errors.errorType",Rows.laid_errors_errorType)]
theorem block_of_laid {W:World} (h:laidMetH Tryz.prog laid W):∃ T F,W.heap[0]? = some (.cells #[rtV gx] T F):=by
  have h':laidMet Tryz.prog [] W∧handlesMet Tryz.prog laid W:=h
  obtain ⟨name,u,ty,e1,e2,e3,e4,e5⟩:=h'.2 _ (List.mem_singleton.2 rfl)
  have en:name = [101,114,114,111,114]:=(Option.some.inj e1).symm
  subst en
  obtain rfl:=Option.some.inj (Tryz.rt.symm.trans e2)
  have hm:ty ∈ (List.range 351).filter fun t=>Tryz.prog.rowNamed t [101,114,114,111,114]:=List.mem_filter.2 ⟨List.mem_range.2 (by rw [← g4]; exact e3),e4⟩
  rw [oneErr] at hm
  obtain rfl:=List.mem_singleton.1 hm
  have hh:typeHandle Tryz.prog 199 = .pointer (some ⟨4,199,none⟩):=by kernel_rfl
  rw [hh] at e5
  unfold World.var? at e5
  rw [Tryz.et] at e5
  simp only [Option.bind_some] at e5
  split at e5
  · rename_i cs T F hq
    cases e5
    exact ⟨T,F,hq⟩
  · cases e5
noncomputable def laidWorld (os:Os):World :=
  let w0:=World.holding Tryz.prog os ⟨#[],#[],[]⟩
  { w0 with heap:=w0.heap.modify 0 fun
      | .cells _ t frozen=>.cells #[rtV gx] t frozen
      | o=>o }
theorem laidWorld_met (os:Os) (args:Array Value):laidMetH Tryz.prog laid ((laidWorld os).forCall (fun _ _=>0) ⟨#[],args,[]⟩).memory :=
  laidMetH_of_parts (laidMet_nil _ _) (by kernel_rfl)
theorem keptBut_same {w w':World} {may:MemPlace→Prop} (h1:w'.os = w.os) (h2:w'.output = w.output) (h:∀ i,i < w.heap.size→w'.heap[i]? = w.heap[i]?):w.keptBut w' may:=by
  refine ⟨h1,h2,fun i hi=>?_⟩
  have:=(World.keptBut_refl w may).2.2 i hi
  rw [h i hi]
  exact this
def kindsB (P:Program) (fn:Func) (c:OpenClaim):Bool:=c.kinds == (if c.domain.isEmpty then [] else fn.params.toList.map fun t=>match P.underlying t with | some (.int k)=>some k | _=>none)
theorem joined_split {P:Program} {f:FuncId} {fn:Func} {s:ChangeSpec} {c:OpenClaim} (h1:(c.wf (OpenSpec.ofChange s) && laidOutB P && mapsRowed P) = true)
    (h2:(fn.params.all (P.readableRec ·) && namedTie P c.named s.vars && (c.stops == []) && (P.stops == []) && (c.knobs == []) && (P.stopKnobs == [])) = true)
    (h3:(c.inPlace == P.inPlace f) = true) (h4:(c.unfollowed == P.unfollowed f) = true) (h5:(c.recurses == P.recurses f) = true) (h6:(c.named == P.varsNamed f) = true)
    (h7:((c.maps == (fn.params.toList++s.plain.varTypes P).any (P.mapsRec ·)) && (c.ifaces == (fn.params.toList++s.plain.varTypes P).any (P.ifacesRec ·)) && (c.mapsOut == P.mapsAmong fn.resultTypes.toList) &&
  (c.loops == (fn.params.toList++s.plain.varTypes P).any (P.loopsFrom ·)) && (c.wideKeys == (fn.params.toList++s.plain.varTypes P++fn.resultTypes.toList).any (P.wideKeysFrom ·)) &&
  s.vars.all (P.varReadable ·) && fn.resultTypes.all (fun t=>P.readableRec t && decide (t < P.types.size)) && (c.ifacesOut == fn.resultTypes.toList.any (P.ifacesRec ·)) && (c.loopsOut == fn.resultTypes.toList.any (P.loopsFrom ·))) = true)
    (h8:(c.plainKeys == P.plainKeys) = true) (h9:(c.shortTexts.isNone && P.stopsHeard && P.mayEnter && (c.lifted == P.liftsFinal) && (P.make == some c.make) && kindsB P fn c && (c.pinned == c.pinnedBy) &&
  (c.veiled == (fn.params.toList++s.plain.varTypes P++fn.resultTypes.toList).any (P.veiledRec ·)) && c.veiledFits P fn.params.toList (fn.params.toList++s.plain.varTypes P++fn.resultTypes.toList)) = true):joinedFacts P f fn s c = true:=by
  unfold joinedFacts
  unfold kindsB at h9
  rw [Bool.and_eq_true] at h1 h2 h7 h9
  simp only [Bool.and_eq_true] at h1 h2 h7 h9
  obtain ⟨⟨a1,a2⟩,a3⟩:=h1
  obtain ⟨⟨⟨⟨⟨b1,b2⟩,b3⟩,b4⟩,b5⟩,b6⟩:=h2
  obtain ⟨⟨⟨⟨⟨⟨⟨⟨c1,c2⟩,c3⟩,c4⟩,c5⟩,c6⟩,c7⟩,c8⟩,c9⟩:=h7
  obtain ⟨⟨⟨⟨⟨⟨⟨⟨d1,d2⟩,d3⟩,d4⟩,d5⟩,d6⟩,d7⟩,d8⟩,d9⟩:=h9
  simp only [Bool.and_eq_true]
  exact ⟨⟨⟨⟨⟨⟨⟨⟨⟨⟨⟨⟨⟨⟨⟨⟨⟨⟨⟨⟨⟨⟨⟨⟨⟨⟨⟨⟨⟨⟨⟨a1,a2⟩,a3⟩,b1⟩,b2⟩,b3⟩,b4⟩,b5⟩,b6⟩,h3⟩,h4⟩,h5⟩,h6⟩,c1⟩,c2⟩,c3⟩,c4⟩,c5⟩,c6⟩,c7⟩,c8⟩,c9⟩,h8⟩,d1⟩,d2⟩,d3⟩,d4⟩,d5⟩,d6⟩,d7⟩,d8⟩,d9⟩
end Go.Proofs.YtemoifebbhoinaaGreatDoor
namespace Go.Proofs.YtemoifebbhoinaaGreatDoor
open Go Mb Go.ChangeShapes Go.WideShapes Go.RowKit
inductive FK where
  | i (k:IntKind)
  | b
def FK.ok:FK→Value→Prop
  | .i k,v=>∃ n,v = .int k n∧(Lit.int k n).wf = true
  | .b,v=>∃ x,v = .bool x
def Fits:List FK→List Value→Prop
  | [],[]=>True
  | k::ks,v::vs=>k.ok v∧Fits ks vs
  | _,_=>False
theorem Fits.len:∀ {ks:List FK} {vs:List Value},Fits ks vs→vs.length = ks.length
  | [],[],_=>rfl
  | _::_,_::_,h=>by simp [h.2.len]
  | [],_::_,h=>h.elim
  | _::_,[],h=>h.elim
section
variable {H:Type} {enc:TypeId × Value→H} {P:Program} {W:World} {base:Nat} {sp:Nat→Bool} {held:Bool}
end
structure Arg {τ:Type} (W:World) (m:Nat) (enc:τ→List Value) (s:Sl) (xs:List τ):Prop where
  len:s.len = xs.length
  cap:s.len ≤ s.cap
  row:s.cap = 0∨∃ b pre rest U fr,s.a = some (b,pre.length)∧s.cap * m ≤ s.len * m + rest.length∧s.g = some (pre,rest,U,fr)∧nf fr pre.length (s.cap * m)∧b ≠ 0∧W.heap[b]? = some (.cells (pre++(xs.flatMap enc++rest)).toArray U fr)
section
variable {H:Type} {enc:TypeId × Value→H} {P:Program} {W:World}
theorem open_bool {b0:Nat} {t:TypeId} {v:Value} {d:DataW H} {ps:List MemPlace} (ht:P.underlying t = some .bool) (hval:Value.okWide P W .any b0 t v) (hd:DataW.Trod enc P W 0 (fun _=>true) true t v d ps):∃ b,v = .bool b:=okWide_bool ht hval
theorem trodAll_stays (hl:laidOutB P = true) {W':World} {sp':Nat→Bool}:∀ {ts:List TypeId} {vs:List Value} {ds:List (DataW H)} {ps:List MemPlace},(∀ t ∈ ts,P.readableRec t = true∧t < P.types.size) →
    DataW.TrodAll enc P W 0 (fun _=>true) true ts vs ds ps→(∀ p ∈ ps,W.sameAt W' p)→(∀ p ∈ ps,sp' p.block = true)→DataW.TrodAll enc P W' 0 sp' true ts vs ds ps
  | [],_,_,_,_,h,_,_=>by
    obtain ⟨rfl,rfl,rfl⟩:=trodAll_nil h
    rfl
  | t::ts,_,_,_,hr,h,hs,hp=>by
    obtain ⟨v,vs,d,ds,a,b,rfl,rfl,rfl,h1,h2⟩:=trodAll_cons h
    exact ⟨a,b,Go.WideElems.Trod_stays hl (hr t (by simp)).1 (hr t (by simp)).2 h1 (fun p q=>hs p (by simp [q])) (fun p q=>hp p (by simp [q])),trodAll_stays hl (fun t q=>hr t (by simp [q])) h2 (fun p q=>hs p (by simp [q])) (fun p q=>hp p (by simp [q])),rfl⟩
end
end Go.Proofs.YtemoifebbhoinaaGreatDoor
namespace Go.Proofs.YtemoifebbhoinaaGreatDoor
open Go Mb Go.ChangeShapes Go.WideShapes Go.RowKit
theorem wf_u {n:Int} (h:(Lit.int .u64 n).wf = true):0 ≤ n∧n < 2 ^ 64:=by
  have:=(Lit.wf_int_iff .u64 n).1 h
  simp [IntKind.has,IntKind.min,IntKind.max,IntKind.signed,IntKind.bits] at this
  omega
theorem Arg.sub {τ:Type} {P:τ→Prop} {W:World} {m:Nat} {C:τ→List Value} {s:Sl} {xs:List {x:τ // P x}} (A:Arg W m (fun x=>C x.1) s xs):Arg W m C s (xs.map (·.1))∧∀ x ∈ xs.map (·.1),P x:=by
  refine ⟨⟨by simpa using A.len,A.cap,?_⟩,fun x hx=>?_⟩
  · have e:(xs.map (·.1)).flatMap C = xs.flatMap (fun x=>C x.1):=by rw [List.flatMap_map]
    rw [e]; exact A.row
  · obtain ⟨y,_,rfl⟩:=List.mem_map.1 hx
    exact y.2
structure Same (W W':World):Prop where
  os:W'.os = W.os
  out:W'.output = W.output
  heap:∀ i,i < W.heap.size→W'.heap[i]? = W.heap[i]?
theorem Same.cell {W W':World} (s:Same W W') {p:MemPlace} (h:p.block < W.heap.size):W.sameAt W' p:=by
  cases p with
  | cell b off =>
    show W'.cell? _ = W.cell? _
    unfold World.cell?
    rw [s.heap b h]
  | map b=>exact s.heap b h
theorem run_spV {τ:Type} {T m:Nat} {enc:τ→List Value} {s:Sl} {xs:List τ} {f:FuncId} {vs:List Value} {ET:Nat} {EF:Nat × Nat} {W:World} (A:Arg W m enc s xs)
    (c:Sp Tryz.prog f vs aC [etB ET EF,vec T m enc s xs] (fun r=>pa_ (r = true) [etB ET EF,vec T m enc s xs])) (hw:W.heap[0]? = some (.cells #[rtV gx] ET EF)) :
    Calls Tryz.prog f vs.toArray W fun e W'=>e = .returned (.bool true)∧Same W W':=by
  have key:∀ (g:Hp),g 0 = none→(∀ b o,g b = some o→W.heap[b]? = some o)→vec T m enc s xs g→(∀ g',vec T m enc s xs g'→∀ b o,g b = some o→g' b = some o) →
      Calls Tryz.prog f vs.toArray W fun e W'=>e = .returned (.bool true)∧Same W W':=by
    intro g g0 gW gv gk
    have hs:Sub (un (dU emp 0 (.cells #[rtV gx] ET EF)) g) W:=by
      intro b o ho
      by_cases hb:b = 0
      · subst hb; rw [un_left (jH _ _ _)] at ho; rw [hw]; exact ho
      · rw [un_right (qg _ _ _ hb)] at ho; exact gW b o ho
    have hd:Dj (dU emp 0 (.cells #[rtV gx] ET EF)) g:=fun b=>by
      by_cases hb:b = 0
      · subst hb; exact .inr g0
      · exact .inl (qg _ _ _ hb)
    have hst:aG [etB ET EF,vec T m enc s xs] (un (dU emp 0 (.cells #[rtV gx] ET EF)) g):=⟨_,_,hd,rfl,jH _ _ _,sH gv⟩
    refine (c _ hst W hs).mono ?_
    rintro e W' ⟨v,h',rfl,⟨r,rfl,q⟩,s',fr⟩
    obtain ⟨rfl,q⟩:=q
    obtain ⟨g1,a1,sub1⟩:=dX (i:=0) (A:=etB ET EF) rfl q
    obtain ⟨g2,a2,sub2⟩:=dX (i:=1) (A:=vec T m enc s xs) rfl q
    refine ⟨rfl,fr.os,fr.out,fun i hi=>?_⟩
    rcases Nat.eq_zero_or_pos i with rfl | hp
    · rw [s' _ _ (sub1 _ _ a1),hw]
    · cases hg:g i with
      | none=>exact fr.same i hi (tM.2 ⟨qg _ _ _ (by omega),hg⟩)
      | some o=>rw [s' _ _ (sub2 _ _ (gk g2 a2 i o hg)),gW i o hg]
  rcases A.row with h0 | ⟨b,pre,rest,U,fr,h1,h2,h3,h4,h5,h6⟩
  · exact key emp rfl (fun b o h=>by cases h) ⟨A.len,A.cap,.inl h0⟩ (fun _ _ b o h=>by cases h)
  · by_cases h0:s.cap = 0
    · exact key emp rfl (fun b o h=>by cases h) ⟨A.len,A.cap,.inl h0⟩ (fun _ _ b o h=>by cases h)
    · refine key (dU emp b (.cells (pre++(xs.flatMap enc++rest)).toArray U fr)) (qg _ _ _ (Ne.symm h5)) ?_ ⟨A.len,A.cap,.inr ⟨b,pre,rest,U,fr,h1,h2,?_,jH _ _ _⟩⟩ ?_
      · intro b' o ho
        unfold dU at ho
        split at ho
        · rename_i hb; subst hb; rw [h6]; exact ho
        · cases ho
      · unfold gh; rw [h3]; exact ⟨rfl,h4⟩
      · rintro g' ⟨_,_,r⟩ b' o ho
        rcases r with r | ⟨c',pre',rest',U',fr',r1,_,r3,r4⟩
        · exact absurd r h0
        · rw [h1] at r1
          unfold gh at r3
          rw [h3] at r3
          obtain ⟨r5,_⟩:=r3
          simp only [Prod.mk.injEq] at r5
          obtain ⟨rfl,rfl,rfl,rfl⟩:=r5
          simp only [Option.some.injEq,Prod.mk.injEq] at r1
          obtain ⟨rfl,_⟩:=r1
          unfold dU at ho
          split at ho
          · rename_i hb; subst hb; cases ho; exact r4
          · cases ho
theorem run_sp' {f:FuncId} {vs:List Value} {ET:Nat} {EF:Nat × Nat} (c:Sp Tryz.prog f vs aC [etB ET EF] (fun r=>pa_ (r = true) [etB ET EF])) {W:World} (hw:W.heap[0]? = some (.cells #[rtV gx] ET EF)) :
    Calls Tryz.prog f vs.toArray W fun e W'=>e = .returned (.bool true)∧Same W W':=by
  refine run_spV (τ:=Int) (T:=0) (m:=1) (enc:=cI .i64) (s:=⟨none,0,0,none⟩) (xs:=[]) ⟨rfl,Nat.le_refl _,.inl rfl⟩ (fun h st=>?_) hw
  obtain ⟨h1,h2,d,rfl,a,s2⟩:=st
  refine (c h1 (sH a)).frame_mono d rfl fun v h' ⟨r,hv,q⟩ dj=>⟨r,hv,?_⟩
  obtain ⟨g1,q⟩:=q
  refine ⟨g1,?_⟩
  exact (eF (l:=[etB ET EF])).2 ⟨h',h2,dj,rfl,q,s2⟩
theorem same_post {H:Type} {enc:TypeId × Value→H} {W W':World} {ts:List TypeId} {vs:List Value} {ds:List (DataW H)} {ps:List MemPlace} {sp:Nat→Bool} (hl:laidOutB Tryz.prog = true) (hr:(ts.all fun t=>Tryz.prog.readableRec t && decide (t < Tryz.prog.types.size)) = true)
    (h:DataW.TrodAll enc Tryz.prog W 0 (fun _=>true) true ts vs ds ps) (hlt:∀ p ∈ ps,p.block < W.heap.size) (s:Same W W') (hs:∀ p ∈ ps,sp p.block = true):DataW.TrodAll enc Tryz.prog W' 0 sp true ts vs ds ps :=
  trodAll_stays hl (fun t ht=>by
    have:=List.all_eq_true.1 hr t ht
    simp only [Bool.and_eq_true,decide_eq_true_eq] at this
    exact this) h (fun p hp=>s.cell (hlt p hp)) hs
theorem want_all {ts:List TypeId} (h:(ts.all fun t=>!(Tryz.prog.wantsStandIn t)) = true) {j:Nat} {t:TypeId} (ht:ts.toArray[j]? = some t):Tryz.prog.wantsStandIn t = false:=by
  have:=List.all_eq_true.1 h t (List.mem_of_getElem? (by simpa using ht))
  simpa using this
end Go.Proofs.YtemoifebbhoinaaGreatDoor
namespace Go.Proofs.YtemoifebbhoinaaGreatDoor
open Go Mb
variable {ET:Nat} {EF:Nat × Nat}
namespace Shared
def r1 (s:eY):=KK.run (KK.new s) 0 0 ⟨1,0,0,0,0⟩
def r2 (s:eY):=KK.run (r1 s).2 0 0 ⟨6,0,0,3,0⟩
def r3 (s:eY) (v:Int):=KK.run (r2 s).2 0 0 ⟨21,0,0,v,0⟩
structure Fine (s:eY) (v:Int):Prop where
  sz:PK.sized s = true
  a1:(r1 s).1 = (⟨0,0⟩,true)
  a2:(r2 s).1 = (⟨0,0⟩,true)
  a3:(r3 s v).1 = (⟨0,0⟩,true)
  n1:(r1 s).2.now < 1000
  n2:(r2 s).2.now < 1000
end Shared
theorem call_len (c:dc):(ah.C c).length = 5:=rfl
open Shared in
theorem sp_shared (s:eY) (v:Int) (F:Fine s v):Sp Tryz.prog ki [.agg s.C.toArray,.int .u64 v] ku [] (fun r=>aG [cF r (r3 s v).2]):=by
  intro h st
  refine uN _ _ ?_
  unfold nM
  refine lL (sp_kern_New s F.sz) st fun x h1 s1=>?_
  refine di (kern_nn s1) ?_
  refine eS (τ:=dc) [⟨1,0,0,0,0⟩,⟨6,0,0,3,0⟩,⟨21,0,0,v,0⟩] (val:=fun x=>.agg x.C.toArray) (enc:=ah.C) el_Sapi_Call call_len (fun _=>rfl) s1 rfl rfl (by decide) fun y h2 s2=>?_
  have hl:=(cj (j:=0) s2 rfl).1
  have hl3:y.len = 3:=hl
  refine Lp.intro (fun (i:Int) h=>∃ (n:Nat) (k:KK),i = n∧(n = 0∧k = KK.new s∨n = 1∧k = (r1 s).2∨n = 2∧k = (r2 s).2∨n = 3∧k = (r3 s v).2)∧aG [vec t_api_Call 5 ah.C y [⟨1,0,0,0,0⟩,⟨6,0,0,3,0⟩,⟨21,0,0,v,0⟩],cF x k] h) (fun (i:Int) _=>3 - i.toNat) ⟨0,_,rfl,.inl ⟨rfl,rfl⟩,s2⟩ ?_
  rintro i h3 ⟨n,k,rfl,hn,s3⟩
  unfold jF
  have lk:∀ (m:Nat) (c:dc) (k':KK),n = m→m < 3→([⟨1,0,0,0,0⟩,⟨6,0,0,3,0⟩,⟨21,0,0,v,0⟩]:List dc)[m]? = some c→(KK.run k 0 0 c).1 = (⟨0,0⟩,true)→(KK.run k 0 0 c).2 = k'→k.now < 1000 →
      (n + 1 = 0∧k' = KK.new s∨n + 1 = 1∧k' = (r1 s).2∨n + 1 = 2∧k' = (r2 s).2∨n + 1 = 3∧k' = (r3 s v).2) →
      (br (decide ((n:Int) < (y.len:Int))) (ix y n fun q22=>ld (q22.1,q22.2 + Int.toNat (n:Int) * 5) ah.C fun x23=>cl Tryz.prog cm [(pv x),(.int .i64 0),(.int .i64 0),(.agg (ah.C x23).toArray)] aZ fun r27 =>
        br ((!r27.2) || (r27.1.fErr != 0)) ((fun r=>aG [cF r (r3 s v).2]) none) ((fun (s':Int) h'=>(∃ (n:Nat) (k:KK),s' = n∧(n = 0∧k = KK.new s∨n = 1∧k = (r1 s).2∨n = 2∧k = (r2 s).2∨n = 3∧k = (r3 s v).2)∧aG [vec t_api_Call 5 ah.C y [⟨1,0,0,0,0⟩,⟨6,0,0,3,0⟩,⟨21,0,0,v,0⟩],cF x k] h')∧3 - s'.toNat < 3 - (n:Int).toNat) (IntKind.i64.wrap ((n:Int) + 1)))) ((fun r=>aG [cF r (r3 s v).2]) x)) h3:=by
    intro m c k' e hm hc hr hk hnow hq
    subst e
    have hw:IntKind.i64.wrap ((n:Int) + 1) = ((n + 1:Nat):Int):=by rw [bR (by omega) (by omega)]; rfl
    refine dG (by rw [hl3]; exact decide_eq_true (by omega)) ?_
    refine dC s3 (j:=0) rfl (by omega) (by omega) fun q hq'=>?_
    refine eE (j:=0) (i:=n) (k:=0) c call_len s3 rfl hq' rfl hc (by simp) ?_
    refine bM (i:=1) (sL x k 0 0 c (by omega)) rfl s3 fun r h4 hr2 s4=>?_
    have hr3:r = (KK.run k 0 0 c).1:=hr2.1
    rw [hr] at hr3
    subst hr3
    refine di rfl ?_
    rw [hw]
    rw [hk] at s4
    exact ⟨⟨n + 1,k',rfl,hq,s4⟩,by simp; omega⟩
  rcases hn with ⟨e,ek⟩ | ⟨e,ek⟩ | ⟨e,ek⟩ | ⟨e,ek⟩
  · exact lk 0 _ (r1 s).2 e (by decide) rfl (by rw [ek]; exact F.a1) (by rw [ek,r1]) (by rw [ek]; show (0:Int) < 1000; decide) (.inr (.inl ⟨by omega,rfl⟩))
  · exact lk 1 _ (r2 s).2 e (by decide) rfl (by rw [ek]; exact F.a2) (by rw [ek,r2]) (by rw [ek]; exact F.n1) (.inr (.inr (.inl ⟨by omega,rfl⟩)))
  · exact lk 2 _ (r3 s v).2 e (by decide) rfl (by rw [ek]; exact F.a3) (by rw [ek,r3]) (by rw [ek]; exact F.n2) (.inr (.inr (.inr ⟨by omega,rfl⟩)))
  · subst e
    refine di (by rw [hl3]; rfl) ?_
    rw [ek] at s3
    exact cc (l:=[_]) s3
end Go.Proofs.YtemoifebbhoinaaGreatDoor
namespace Go.Proofs.YtemoifebbhoinaaGreatDoor
open Go Mb
namespace Caps
theorem under_put {t:T} (ok:Ok t) {e s:Int} (h:has t e s = true) (h0:(get t e s).fRights = 0) {c:Cap} (hc:0 ≤ c.fEnv→has t c.fEnv c.fSlot = true∧(get t c.fEnv c.fSlot).fRights ≠ 0) (p:bV) :
    ∀ (n:Nat) (a b:Int),deep 40 t (get t a b) ≤ n→has t a b = true→(get t a b).fRights ≠ 0→under (put t e s c) (get t a b) p = under t (get t a b) p:=by
  have ok':=ok_put ok h h0 c hc
  intro n
  induction n with
  | zero =>
    intro a b hd hab hne
    have hk:get (put t e s c) a b = get t a b:=by rw [get_put ok.row h hab,if_neg]; rintro ⟨rfl,rfl⟩; exact hne h0
    have s1:=under_step ok' (by rw [put_has]; exact hab) (e:=a) (s:=b) p
    rw [hk] at s1
    rw [s1,under_step ok hab]
    by_cases hen:(get t a b).fRights ≠ 0∧0 ≤ (get t a b).fEnv
    · have:=deep_step ok hab hen; omega
    · rw [if_neg hen,if_neg hen]
  | succ n ih =>
    intro a b hd hab hne
    have hk:get (put t e s c) a b = get t a b:=by rw [get_put ok.row h hab,if_neg]; rintro ⟨rfl,rfl⟩; exact hne h0
    have s1:=under_step ok' (by rw [put_has]; exact hab) (e:=a) (s:=b) p
    rw [hk] at s1
    rw [s1,under_step ok hab]
    by_cases hen:(get t a b).fRights ≠ 0∧0 ≤ (get t a b).fEnv
    · have hd2:=deep_step ok hab hen
      obtain ⟨p1,p2⟩:=parent_has ok hab hen.1 hen.2
      have hkp:get (put t e s c) (get t a b).fEnv (get t a b).fSlot = get t (get t a b).fEnv (get t a b).fSlot:=by
        rw [get_put ok.row h p1,if_neg]; rintro ⟨e1,e2⟩; rw [e1,e2] at p2; exact p2 h0
      rw [if_pos hen,if_pos hen,hkp,ih _ _ (by omega) p1 p2]
    · rw [if_neg hen,if_neg hen]
theorem under_empties {t:T} (ok:Ok t) {l:List bV} (hl:∀ p ∈ l,has t p.fEnv p.fSlot = true)
    (cl:∀ e s,has t e s = true→(get t e s).fRights ≠ 0→0 ≤ (get t e s).fEnv→(⟨(get t e s).fEnv,(get t e s).fSlot⟩:bV) ∈ l→(⟨e,s⟩:bV) ∈ l) (p:bV) :
    ∀ (n:Nat) (a b:Int),deep 40 t (get t a b) ≤ n→has t a b = true→(get t a b).fRights ≠ 0→(⟨a,b⟩:bV) ∉ l→under (empties t l) (get t a b) p = under t (get t a b) p:=by
  have ok':=ok_empties ok hl cl
  have hkeep:∀ a b,has t a b = true→(⟨a,b⟩:bV) ∉ l→get (empties t l) a b = get t a b:=fun a b hab hm=>by
    rw [jd l t ok.row hl a b hab,if_neg hm]
  intro n
  induction n with
  | zero =>
    intro a b hd hab hne hm
    have s1:=under_step ok' (by rw [empties_has]; exact hab) (e:=a) (s:=b) p
    rw [hkeep a b hab hm] at s1
    rw [s1,under_step ok hab]
    by_cases hen:(get t a b).fRights ≠ 0∧0 ≤ (get t a b).fEnv
    · have:=deep_step ok hab hen; omega
    · rw [if_neg hen,if_neg hen]
  | succ n ih =>
    intro a b hd hab hne hm
    have s1:=under_step ok' (by rw [empties_has]; exact hab) (e:=a) (s:=b) p
    rw [hkeep a b hab hm] at s1
    rw [s1,under_step ok hab]
    by_cases hen:(get t a b).fRights ≠ 0∧0 ≤ (get t a b).fEnv
    · have hd2:=deep_step ok hab hen
      obtain ⟨p1,p2⟩:=parent_has ok hab hen.1 hen.2
      have hpm:(⟨(get t a b).fEnv,(get t a b).fSlot⟩:bV) ∉ l:=fun h=>hm (cl a b hab hen.1 hen.2 h)
      rw [if_pos hen,if_pos hen,hkeep _ _ p1 hpm,ih _ _ (by omega) p1 p2 hpm]
    · rw [if_neg hen,if_neg hen]
theorem under_self {t:T} (ok:Ok t):∀ (n:Nat) (a b:Int),deep 40 t (get t a b) ≤ n→has t a b = true→∀ p:bV,under t (get t a b) p = true→has t p.fEnv p.fSlot = true→deep 40 t (get t p.fEnv p.fSlot) < deep 40 t (get t a b):=by
  intro n
  induction n with
  | zero =>
    intro a b hd hab p hu hp
    rw [under_step ok hab] at hu
    by_cases hen:(get t a b).fRights ≠ 0∧0 ≤ (get t a b).fEnv
    · have:=deep_step ok hab hen; omega
    · rw [if_neg hen] at hu; cases hu
  | succ n ih =>
    intro a b hd hab p hu hp
    rw [under_step ok hab] at hu
    by_cases hen:(get t a b).fRights ≠ 0∧0 ≤ (get t a b).fEnv
    · have hd2:=deep_step ok hab hen
      rw [if_pos hen] at hu
      by_cases he:(get t a b).fEnv = p.fEnv∧(get t a b).fSlot = p.fSlot
      · rw [← he.1,← he.2]; exact hd2
      · rw [if_neg he] at hu
        obtain ⟨p1,p2⟩:=parent_has ok hab hen.1 hen.2
        have:=ih _ _ (by omega) p1 p hu hp
        omega
    · rw [if_neg hen] at hu; cases hu
theorem not_under_self {t:T} (ok:Ok t) {a b:Int} (h:has t a b = true):under t (get t a b) ⟨a,b⟩ = false:=by
  cases hu:under t (get t a b) ⟨a,b⟩ with
  | false=>rfl
  | true=>exact absurd (under_self ok _ a b (Nat.le_refl _) h ⟨a,b⟩ hu h) (Nat.lt_irrefl _)
theorem under_frame {n:Int} {t:T} (ok:Ok t) (F:eC n t):∀ (m:Nat) (a b:Int),deep 40 t (get t a b) ≤ m→has t a b = true→∀ p:bV,under t (get t a b) p = true→(get t a b).fFrame = (get t p.fEnv p.fSlot).fFrame:=by
  intro m
  induction m with
  | zero =>
    intro a b hd hab p hu
    rw [under_step ok hab] at hu
    by_cases hen:(get t a b).fRights ≠ 0∧0 ≤ (get t a b).fEnv
    · have:=deep_step ok hab hen; omega
    · rw [if_neg hen] at hu; cases hu
  | succ m ih =>
    intro a b hd hab p hu
    rw [under_step ok hab] at hu
    by_cases hen:(get t a b).fRights ≠ 0∧0 ≤ (get t a b).fEnv
    · have hd2:=deep_step ok hab hen
      obtain ⟨p1,p2⟩:=parent_has ok hab hen.1 hen.2
      have hfr:(get t (get t a b).fEnv (get t a b).fSlot).fFrame = (get t a b).fFrame:=by
        rcases F a b hab with e1 | e1 | e1
        · rw [e1] at hen; exact absurd rfl hen.1
        · have:=hen.2; omega
        · exact e1.2.2.2.2
      rw [if_pos hen] at hu
      by_cases he:(get t a b).fEnv = p.fEnv∧(get t a b).fSlot = p.fSlot
      · rw [← he.1,← he.2,hfr]
      · rw [if_neg he] at hu
        rw [← hfr]
        exact ih _ _ (by omega) p1 p hu
    · rw [if_neg hen] at hu; cases hu
def isF (f:Int) (c:Cap):Bool:=decide (c.fRights ≠ 0) && decide (c.fFrame = f)
def cnt (f:Int):T→Nat
  | []=>0
  | r::t=>r.countP (isF f) + cnt f t
def b2n (b:Bool):Nat:=if b then 1 else 0
theorem countP_set {α:Type} (P:α→Bool):∀ (l:List α) (i:Nat) (a:α) (h:i < l.length),(l.set i a).countP P + b2n (P l[i]) = l.countP P + b2n (P a)
  | [],i,_,h=>by simp at h
  | x::l,0,a,_=>by simp [b2n,List.countP_cons]; omega
  | x::l,i + 1,a,h=>by
    have:=countP_set P l i a (by simpa using h)
    simp only [List.set_cons_succ,List.countP_cons,List.getElem_cons_succ]
    omega
theorem cnt_set (f:Int):∀ (t:T) (i:Nat) (r:List Cap) (h:i < t.length),cnt f (t.set i r) + t[i].countP (isF f) = cnt f t + r.countP (isF f)
  | [],i,_,h=>by simp at h
  | x::t,0,r,_=>by simp [cnt]; omega
  | x::t,i + 1,r,h=>by
    have:=cnt_set f t i r (by simpa using h)
    simp only [List.set_cons_succ,cnt,List.getElem_cons_succ]
    omega
theorem cnt_put (f:Int) {t:T} (row:∀ r ∈ t,r.length = 8) {e s:Int} (h:has t e s = true) (c:Cap):cnt f (put t e s c) + b2n (isF f (get t e s)) = cnt f t + b2n (isF f c):=by
  obtain ⟨m,n,rfl,rfl,hm,hn⟩:=has_nat h
  obtain ⟨h3,hg⟩:=get_nat' row hm hn
  rw [put_nat hm,hg]
  have h1:=cnt_set f t m (t[m].set n c) hm
  have h2:=countP_set (isF f) t[m] n c h3
  omega
theorem cnt_empties (f:Int):∀ (l:List bV) {t:T},(∀ r ∈ t,r.length = 8)→l.Nodup→(∀ p ∈ l,has t p.fEnv p.fSlot = true∧(get t p.fEnv p.fSlot).fRights ≠ 0) →
    cnt f (empties t l) + (l.countP fun p=>decide ((get t p.fEnv p.fSlot).fFrame = f)) = cnt f t
  | [],_,_,_,_=>by simp [empties]
  | p::l,t,row,nd,hl=>by
    obtain ⟨nd1,nd2⟩:=List.nodup_cons.1 nd
    obtain ⟨hp1,hp2⟩:=hl p (by simp)
    have row':=put_row row p.fEnv p.fSlot mo
    have hk:∀ q ∈ l,get (put t p.fEnv p.fSlot mo) q.fEnv q.fSlot = get t q.fEnv q.fSlot:=fun q hq=>by
      rw [get_put row hp1 (hl q (by simp [hq])).1,if_neg]
      rintro ⟨e1,e2⟩
      apply nd1
      have:q = p:=by cases p; cases q; simp_all
      exact this ▸ hq
    have ih:=cnt_empties f l row' nd2 (fun q hq=>by rw [put_has,hk q hq]; exact hl q (by simp [hq]))
    have h1:=cnt_put f row hp1 mo
    have h0:b2n (isF f mo) = 0:=rfl
    have h2:b2n (isF f (get t p.fEnv p.fSlot)) = if (get t p.fEnv p.fSlot).fFrame = f then 1 else 0:=by
      unfold b2n isF
      by_cases hf:(get t p.fEnv p.fSlot).fFrame = f <;> simp [hp2,hf]
    have h3:(l.countP fun q=>decide ((get (put t p.fEnv p.fSlot mo) q.fEnv q.fSlot).fFrame = f)) = l.countP fun q=>decide ((get t q.fEnv q.fSlot).fFrame = f):=by
      refine List.countP_congr fun q hq=>?_
      rw [hk q hq]
    rw [h3] at ih
    rw [empties,List.countP_cons]
    simp only [decide_eq_true_eq]
    omega
theorem cnt_pos {f:Int} {t:T} (row:∀ r ∈ t,r.length = 8) {e s:Int} (h:has t e s = true) (hr:(get t e s).fRights ≠ 0) (hf:(get t e s).fFrame = f):0 < cnt f t:=by
  have:=cnt_put f row h mo
  have h0:b2n (isF f mo) = 0:=rfl
  have h1:b2n (isF f (get t e s)) = 1:=by unfold b2n isF; simp [hr,hf]
  omega
theorem cnt_new (f:Int) (n:Nat):cnt f (List.replicate n (List.replicate 8 mo)) = 0:=by
  induction n with
  | zero=>rfl
  | succ n ih=>rw [List.replicate_succ,cnt,ih]; rfl
theorem rowOf_nodup (P:Int→Int→Cap→Bool) (e:Int):∀ (cs:List Cap) (s:Int),(rowOf P e cs s).Nodup
  | [],_=>.nil
  | c::cs,s=>by
    rw [rowOf_c]
    split
    · refine List.nodup_cons.2 ⟨fun h=>?_,rowOf_nodup P e cs (s + 1)⟩
      obtain ⟨_,n,_,_,h2,_⟩:=mem_rowOf.1 h
      simp only at h2
      omega
    · exact rowOf_nodup P e cs (s + 1)
theorem uE (P:Int→Int→Cap→Bool):∀ (t:T) (e:Int),(allOf P t e).Nodup
  | [],_=>.nil
  | r::t,e=>by
    rw [allOf,List.nodup_append]
    refine ⟨rowOf_nodup P e r 0,uE P t (e + 1),fun a ha b hb hab=>?_⟩
    subst hab
    obtain ⟨h1,_⟩:=mem_rowOf.1 ha
    obtain ⟨m,n,r',c,_,_,h2,_⟩:=mem_allOf.1 hb
    rw [h2] at h1
    simp only at h1
    omega
end Caps
end Go.Proofs.YtemoifebbhoinaaGreatDoor
namespace Go.Proofs.YtemoifebbhoinaaGreatDoor
open Go Mb
namespace Table
theorem get_snd (ps:List Pte) (i:Int):(get ps i).2 = decide ((get ps i).1.fRights ≠ 0):=by
  unfold get; split
  · rename_i h; simp [h.2]
  · rfl
theorem get_at {ps:List Pte} {i:Int} (h:bt i = true) (hr:(at_ ps i).fRights ≠ 0):get ps i = (at_ ps i,true):=by unfold get; rw [if_pos ⟨h,hr⟩]
theorem get_no {ps:List Pte} {i:Int} (h:¬ (bt i = true∧(at_ ps i).fRights ≠ 0)):get ps i = (dh,false):=by unfold get; rw [if_neg h]
theorem at_set {ps:List Pte} (hl:ps.length = 8) {i j:Int} (hi:bt i = true) (hj:bt j = true) (p:Pte):at_ (ps.set i.toNat p) j = if j = i then p else at_ ps j:=by
  obtain ⟨n,rfl,hn⟩:=mJ hi
  obtain ⟨m,rfl,hm⟩:=mJ hj
  simp only [at_,Int.toNat_natCast,List.getD_eq_getElem?_getD,List.getElem?_set]
  by_cases e:n = m
  · subst e; simp [hl,hn]
  · have:¬ ((m:Int) = n):=by omega
    rw [if_neg e,if_neg this]
theorem get_set {ps:List Pte} (hl:ps.length = 8) {i:Int} (hi:bt i = true) (p:Pte) (j:Int):get (ps.set i.toNat p) j = if j = i then (if p.fRights ≠ 0 then (p,true) else (dh,false)) else get ps j:=by
  by_cases hj:bt j = true
  · unfold get
    rw [at_set hl hi hj]
    by_cases e:j = i
    · subst e; simp only [if_true,hj,true_and]
    · simp only [if_neg e]
  · have e:j ≠ i:=fun e=>hj (e ▸ hi)
    rw [if_neg e,get_no (fun h=>hj h.1),get_no (fun h=>hj h.1)]
theorem get_insert {ps:List Pte} (hl:ps.length = 8) (i:Int) (p:Pte) (h0:(insert ps i p).1 = 0) (j:Int):get (insert ps i p).2 j = if j = i then (p,true) else get ps j:=by
  unfold insert at h0 ⊢
  by_cases h1:(eV p).2 = false∨p.fRights = 0∨bt i = false
  · rw [if_pos h1] at h0; cases h0
  · rw [if_neg h1] at h0 ⊢
    by_cases h2:(at_ ps i).fRights ≠ 0
    · rw [if_pos h2] at h0; cases h0
    · rw [if_neg h2]
      simp only [not_or,Bool.not_eq_false] at h1
      rw [get_set hl h1.2.2,if_pos h1.2.1]
theorem insert_same {ps:List Pte} (i:Int) (p:Pte) (h0:(insert ps i p).1 ≠ 0):(insert ps i p).2 = ps:=by
  unfold insert at h0 ⊢
  split
  · rfl
  · rename_i h1
    rw [if_neg h1] at h0
    split
    · rfl
    · rename_i h2; rw [if_neg h2] at h0; exact absurd rfl h0
theorem get_remove {ps:List Pte} (hl:ps.length = 8) (i j:Int):get (remove ps i).2 j = if j = i then (dh,false) else get ps j:=by
  unfold remove
  by_cases h1:bt i = false
  · rw [if_pos h1]
    by_cases e:j = i
    · subst e; rw [if_pos rfl,get_no (fun h=>by rw [h1] at h; exact Bool.false_ne_true h.1)]
    · rw [if_neg e]
  · rw [if_neg h1]
    have h1':bt i = true:=by simpa using h1
    by_cases h2:(at_ ps i).fRights = 0
    · rw [if_pos h2]
      by_cases e:j = i
      · subst e; rw [if_pos rfl,get_no (fun h=>h.2 h2)]
      · rw [if_neg e]
    · rw [if_neg h2,get_set hl h1']
      simp
theorem get_protect {ps:List Pte} (hl:ps.length = 8) (i r:Int) (j:Int) (h:(get ps i).2 = true) (hr:cg r = true):get (protect ps i r).2 j = if j = i then ({ (get ps i).1 with fRights:=r },true) else get ps j:=by
  have hi:bt i = true∧(at_ ps i).fRights ≠ 0:=by
    by_cases hh:bt i = true∧(at_ ps i).fRights ≠ 0
    · exact hh
    · rw [get_no hh] at h; cases h
  have hr0:r ≠ 0:=by have:=uz.1 hr; omega
  unfold protect
  rw [if_neg (by rw [hi.1,hr]; simp),if_neg hi.2,get_set hl hi.1,get_at hi.1 hi.2]
  simp [hr0]
theorem remove_len (ps:List Pte) (i:Int):(remove ps i).2.length = ps.length:=by unfold remove; split <;> (try split) <;> simp
theorem mem_byFrom {s x:Int}:∀ {ps:List Pte} {i:Int},x ∈ byFrom s ps i↔∃ (n:Nat) (p:Pte),ps[n]? = some p∧x = i + n∧p.fRights ≠ 0∧p.fSlot = s
  | [],i=>by simp [byFrom]
  | d::ps,i=>by
    have ih:=mem_byFrom (s:=s) (x:=x) (ps:=ps) (i:=i + 1)
    have sp:(∃ (n:Nat) (p:Pte),(d::ps)[n]? = some p∧x = i + n∧p.fRights ≠ 0∧p.fSlot = s)↔(x = i∧d.fRights ≠ 0∧d.fSlot = s)∨∃ (n:Nat) (p:Pte),ps[n]? = some p∧x = i + 1 + n∧p.fRights ≠ 0∧p.fSlot = s:=by
      constructor
      · rintro ⟨n,e,h1,h2,h3⟩
        cases n with
        | zero=>simp at h1; subst h1; exact .inl ⟨by simpa using h2,h3⟩
        | succ n=>exact .inr ⟨n,e,by simpa using h1,by omega,h3⟩
      · rintro (⟨h2,h3⟩ | ⟨n,e,h1,h2,h3⟩)
        · exact ⟨0,d,rfl,by simpa using h2,h3⟩
        · exact ⟨n + 1,e,by simpa using h1,by omega,h3⟩
    rw [sp,← ih,byFrom]
    split
    · rename_i hd
      rw [List.mem_cons]
      constructor
      · rintro (h | h)
        · exact .inl ⟨h,hd⟩
        · exact .inr h
      · rintro (h | h)
        · exact .inl h.1
        · exact .inr h
    · rename_i hd
      constructor
      · exact .inr
      · rintro (h | h)
        · exact absurd h.2 hd
        · exact h
theorem mem_by {ps:List Pte} (hl:ps.length = 8) {s x:Int}:x ∈ by_ ps s↔(get ps x).2 = true∧(get ps x).1.fSlot = s:=by
  unfold by_
  rw [mem_byFrom]
  constructor
  · rintro ⟨n,p,h1,rfl,h2,h3⟩
    have hn:=(List.getElem?_eq_some_iff.1 h1).1
    have hi:bt ((0:Int) + n) = true:=by unfold bt; simp; omega
    have ha:at_ ps ((0:Int) + n) = p:=by simp [at_,h1]
    rw [get_at hi (by rw [ha]; exact h2),ha]
    exact ⟨rfl,h3⟩
  · rintro ⟨h1,h2⟩
    by_cases hh:bt x = true∧(at_ ps x).fRights ≠ 0
    · rw [get_at hh.1 hh.2] at h2
      obtain ⟨n,rfl,hn⟩:=mJ hh.1
      refine ⟨n,at_ ps n,?_,by simp,hh.2,h2⟩
      have:n < ps.length:=by omega
      simp [at_,this]
    · rw [get_no hh] at h1; cases h1
end Table
namespace PK
def q (k:PK) (e pg:Int):Pte:=(pte k e pg).1
theorem pte_snd (k:PK) (e pg:Int):(pte k e pg).2 = decide ((q k e pg).fRights ≠ 0):=by
  unfold q pte; split
  · rfl
  · exact Table.get_snd _ _
theorem off_iff {k:PK} {e:Int}:off k e = false↔0 ≤ e∧e < k.s.fEnvs:=by unfold off; simp
theorem q_on {k:PK} {e pg:Int} (h:(q k e pg).fRights ≠ 0):off k e = false∧(Table.get (tab k e) pg).2 = true∧q k e pg = (Table.get (tab k e) pg).1:=by
  cases ho:off k e with
  | true=>unfold q pte at h; rw [if_pos ho] at h; exact absurd rfl h
  | false =>
    have e1:q k e pg = (Table.get (tab k e) pg).1:=by unfold q pte; rw [if_neg (by rw [ho]; exact Bool.false_ne_true)]
    refine ⟨rfl,?_,e1⟩
    rw [Table.get_snd,← e1]; simpa using h
theorem uo {k:PK} {e:Int} (h:off k e = false) (pg:Int):q k e pg = (Table.get (tab k e) pg).1:=by unfold q pte; rw [if_neg (by rw [h]; exact Bool.false_ne_true)]
theorem tab_in {k:PK} (ok:PK.Ok k) {e:Int} (h:off k e = false):e.toNat < k.tabs.length∧(tab k e).length = 8:=by
  have h1:=off_iff.1 h
  have h2:=ok.tl
  have:e.toNat < k.tabs.length:=by omega
  exact ⟨this,(tab_ok ok e this).1⟩
theorem tab_set' {k:PK} (ok:PK.Ok k) {e:Int} (h:off k e = false) (ps:List Pte) {a:Int} (ha:off k a = false):tab { k with tabs:=k.tabs.set e.toNat ps } a = if a = e then ps else tab k a:=by
  have h1:=off_iff.1 h
  have h2:=off_iff.1 ha
  have h3:=(tab_in ok h).1
  have h4:=(tab_in ok ha).1
  simp only [tab,List.getD_eq_getElem?_getD,List.getElem?_set]
  by_cases e1:a = e
  · subst e1; simp [h3]
  · have:¬ e.toNat = a.toNat:=by omega
    rw [if_neg this,if_neg e1]
theorem q_tabs {k:PK} (ok:PK.Ok k) {e:Int} (h:off k e = false) (ps:List Pte) (a pg:Int):q { k with tabs:=k.tabs.set e.toNat ps } a pg = if a = e then (Table.get ps pg).1 else q k a pg:=by
  cases ha:off k a with
  | true =>
    have e1:a ≠ e:=fun e1=>by rw [e1,h] at ha; cases ha
    rw [if_neg e1]
    unfold q pte
    have:off { k with tabs:=k.tabs.set e.toNat ps } a = true:=ha
    rw [if_pos this,if_pos ha]
  | false =>
    have h':off { k with tabs:=k.tabs.set e.toNat ps } a = false:=ha
    rw [uo h',tab_set' ok h ps ha]
    split
    · rfl
    · rw [uo ha]
structure Fine (k:PK):Prop where
  ok:PK.Ok k
  by_:∀ e pg,(q k e pg).fRights ≠ 0→Caps.has k.caps e (q k e pg).fSlot = true∧(Caps.get k.caps e (q k e pg).fSlot).fFrame = (q k e pg).fFrame∧aQ (q k e pg).fRights (Caps.get k.caps e (q k e pg).fSlot).fRights = true
  num:∀ f:Int,0 ≤ f→f < k.s.fFrames→Pool.refs k.pool f = Caps.cnt f k.caps
theorem q_new (s:eY) (e pg:Int):q (new s) e pg = dh:=by
  unfold q pte
  split
  · rfl
  · rename_i h
    have h':off (new s) e = false:=by simpa using h
    have h1:=off_iff.1 h'
    have h2:e < s.fEnvs:=h1.2
    have:tab (new s) e = List.replicate 8 dh:=by
      simp only [tab,new,List.getD_eq_getElem?_getD,List.getElem?_replicate]
      rw [if_pos (by omega)]; rfl
    rw [this]
    unfold Table.get
    split
    · rename_i hh
      exfalso; apply hh.2
      simp only [Table.at_,List.getD_eq_getElem?_getD,List.getElem?_replicate]
      split <;> rfl
    · rfl
theorem fine_new {s:eY} (h:sized s = true):Fine (new s):=by
  refine ⟨ok_new h,fun e pg hq=>by rw [q_new] at hq; exact absurd rfl hq,fun f h0 h1=>?_⟩
  have:Caps.cnt f (new s).caps = 0:=Caps.cnt_new f _
  rw [this]
  unfold Pool.refs
  rw [if_neg (by omega)]
  simp only [new,List.getD_eq_getElem?_getD,List.getElem?_replicate]
  split <;> rfl
theorem touch_same (k:PK) (f:Int) (c:dc):(touch k f c).2.caps = k.caps∧(touch k f c).2.tabs = k.tabs∧(touch k f c).2.pool = k.pool∧(touch k f c).2.s = k.s:=by
  unfold touch
  repeat' split
  all_goals exact ⟨rfl,rfl,rfl,rfl⟩
theorem q_same {k k':PK} (h1:k'.tabs = k.tabs) (h2:k'.s = k.s) (e pg:Int):q k' e pg = q k e pg:=by
  unfold q pte off tab; rw [h1,h2]
theorem fine_same {k k':PK} (F:Fine k) (ok:PK.Ok k') (h0:k'.caps = k.caps) (h1:k'.tabs = k.tabs) (h2:k'.s = k.s) (h3:k'.pool = k.pool):Fine k' :=
  ⟨ok,fun e pg hq=>by rw [q_same h1 h2] at hq ⊢; rw [h0]; exact F.by_ e pg hq,fun f a b=>by rw [h0,h3]; exact F.num f a (by rw [← h2]; exact b)⟩
theorem fine_touch {k:PK} (F:Fine k) (f:Int) (c:dc):Fine (touch k f c).2 :=
  have h:=touch_same k f c
  fine_same F (ok_touch F.ok f c) h.1 h.2.1 h.2.2.2 h.2.2.1
end PK
end Go.Proofs.YtemoifebbhoinaaGreatDoor
