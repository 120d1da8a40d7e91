/- The law HistAll returns true for every input, and leaves its arguments as they were. -/
import Derived.Test.YtochchocdckegaaGreatDoorHistAll16
import Derived.Test.YtochchocdckegaaGreatDoorCards
import Derived.Test.YtochchocdckegaaGreatDoorRows
import Derived.Test.YtochchocdckegaaGreatDoorTie
set_option linter.all false
set_option maxRecDepth 20000
namespace Go.Proofs.YtochchocdckegaaGreatDoor
open Go.Proofs.Tryz
open Go.IntKind (i64 u64)
open _root_.Array (ext')
open _root_.Bool (and_eq_true)
open _root_.List (drop_drop getElem?_eq_getElem length_take take_append_drop)
open _root_.Nat (le_refl succ_mul)
open _root_.Option (bind_eq_some_iff)
section
open Go Mb
variable {ET:Nat} {EF:Nat × Nat}
theorem all_j1 {y d:Sl} {xs:List bC} {ds:List Int} (hb:xs.length <= 20) {i:Nat} (hi:i < xs.length) {n:Int} {K:Bool->Hp->Prop} {Rec:(Int × Int)->Hp->Prop} {h:Hp} (st:ay [vI d ds,etB ET EF,vE y xs] h) (k:∀ h',ay [vI d ds,etB ET EF,vE y xs] h'->Rec (n,((i + 1:Nat):Int)) h') {m:Int} :
  ft K y Rec (m,(i:Int)) n h:=by
 unfold ft;have hl:=(bY (j:=2) st rfl).1;refine Lp.intro (fun (z:Int) h=>∃ t:Nat,z = t/\t <= xs.length/\ay [vI d ds,etB ET EF,vE y xs] h) (fun (z:Int) _=>xs.length - z.toNat) ⟨0,rfl,Nat.zero_le _,st⟩ ?_;rintro z h1 ⟨t,rfl,ht,s1⟩;unfold jD;simp only;refine aX (fun d2=>?_) (fun d2=>?_)
 ·have hlt:t < xs.length:=by rw [hl] at d2; simpa using d2
  have hw:i64.wrap ((t:Int) + 1) = ((t + 1:Nat):Int):=by rw [bp (by omega) (by omega)]; rfl
  rw [hw];refine cU s1 (j:=2) rfl (by omega) (by omega) fun q1 hq1=>?_;refine cU s1 (j:=2) rfl (by omega) (by omega) fun q2 hq2=>?_;have LA:∀ {K:bC->Hp->Prop},K xs[i] h1->ld (q1.1,q1.2 + Int.toNat (i:Int) * 16) aq.C K h1:=fun k=>cX (j:=2) (i:=i) (k:=0) xs[i] eK s1 rfl hq1 rfl (aB hi) (by simp) k;have LB:∀ {K:bC->Hp->Prop},K xs[t] h1->ld (q2.1,q2.2 + Int.toNat (t:Int) * 16) aq.C K h1:=fun k=>cX (j:=2) (i:=t) (k:=0) xs[t] eK s1 rfl hq2 rfl (aB hlt) (by simp) k;have LE:∀ {K:Int->Hp->Prop},K xs[i].fGa h1->ld (q1.1,q1.2 + Int.toNat (i:Int) * 16 + 9) (cI .i64) K h1:=fun k=>cX (j:=2) (i:=i) (k:=9) xs[i].fGa eK s1 rfl hq1 rfl (aB hi) (c1 rfl rfl) k;have LF:∀ {K:Int->Hp->Prop},K xs[t].fLa h1->ld (q2.1,q2.2 + Int.toNat (t:Int) * 16 + 7) (cI .i64) K h1:=fun k=>cX (j:=2) (i:=t) (k:=7) xs[t].fLa eK s1 rfl hq2 rfl (aB hlt) (c1 rfl rfl) k;have R:(fun (z:Int) h=>(∃ t:Nat,z = t/\t <= xs.length/\ay [vI d ds,etB ET EF,vE y xs] h)/\xs.length - z.toNat < xs.length - (t:Int).toNat) ((t + 1:Nat):Int) h1:=⟨⟨t + 1,rfl,hlt,s1⟩,by simp; omega⟩
  have T:br (decide (xs[i].fGa > 0)) (
    ld (q1.1,q1.2 + Int.toNat (i:Int) * 16 + 9) (cI .i64) fun x95 =>
    ld (q2.1,q2.2 + Int.toNat (t:Int) * 16 + 7) (cI .i64) fun x100 =>
    br (!((cY xs[i] xs[t]) == (decide (x95 < x100)))) (K false) ((fun (z:Int) h=>(∃ t:Nat,z = t/\t <= xs.length/\ay [vI d ds,etB ET EF,vE y xs] h)/\xs.length - z.toNat < xs.length - (t:Int).toNat) ((t + 1:Nat):Int))) (
    br (!((cY xs[i] xs[t]) == false)) (K false) ((fun (z:Int) h=>(∃ t:Nat,z = t/\t <= xs.length/\ay [vI d ds,etB ET EF,vE y xs] h)/\xs.length - z.toNat < xs.length - (t:Int).toNat) ((t + 1:Nat):Int))) h1:=by
   refine aX (fun d3=>?_) (fun d3=>?_)
   ·refine LE (LF (dN ?_ R));unfold cY;rw [d3]; simp
   ·refine dN ?_ R;unfold cY;rw [d3]; rfl
  exact ⟨LA ⟨LB (LE T),LE (LB T)⟩,LB ⟨LA (LE T),LE (LA T)⟩,LE (LA (LB T))⟩
 ·have hw:i64.wrap ((i:Int) + 1) = ((i + 1:Nat):Int):=by rw [bp (by omega) (by omega)]; rfl
  rw [hw];exact k h1 s1
theorem sp_HistAll (s:Sl) (es:List bC) (z:gX) (a:Int):Sp prog oF [sv s,.agg z.C.toArray,.int .i64 a] aD [etB ET EF,vE s es] (fun r=>pa_ (r = true) [etB ET EF,vE s es]):=by
 intro h st;refine ur _ _ _ ?_;unfold nA;refine cc (i:=0) sp_begun16 rfl st fun r h1 hr s1=>?_;subst hr;refine dN rfl ?_;have s1:ay [etB ET EF,vE s es] h1:=s1;have hl:=(bY (j:=1) s1 rfl).1;have hm:mn (s.len:Int) 20 = ((min es.length 20:Nat):Int):=by unfold mn; rw [hl]; split <;> omega
 rw [hm];refine sliceTo_v (i:=1) nI eK rfl s1 rfl (Nat.min_le_left _ _) fun y _ hback s2=>?_;have s2:ay [etB ET EF,vE y (es.take (min es.length 20))] h1:=s2;have hb:(es.take (min es.length 20)).length <= 20:=by rw [length_take]; omega
 generalize es.take (min es.length 20) = xs at hback s2 hb;have fin:∀ {r:Bool} {h':Hp},r = true->ay [etB ET EF,vE y xs] h'->pa_ (r = true) [etB ET EF,vE s es] h':=fun hr s'=>ba hr (star_imp (i:=1) rfl hback s');refine cc (i:=1) (sp_hist_May y xs z (by omega)) rfl s2 fun r1 h2 hr1 s3=>?_;have s3:ay [etB ET EF,vE y xs] h2:=s3;refine cc (i:=1) (sp_ref2_May y xs z (by omega)) rfl s3 fun r2 h3 hr2 s4=>?_;have s4:ay [etB ET EF,vE y xs] h3:=s4;refine dN (by rw [hr1,hr2]; simp) ?_;refine ui (i:=1) (sp_hist_Over y xs a (by omega)) rfl s4 fun o1 h4 s5=>?_;have s5:ay [vI o1 (Hist.over xs a),etB ET EF,vE y xs] h4:=s5;refine ui (i:=2) (sp_ref2_Over y xs a (by omega)) rfl s5 fun o2 h5 s6=>?_;have s6:ay [vI o2 (Hist.over xs a),vI o1 (Hist.over xs a),etB ET EF,vE y xs] h5:=s6;have hov:(Hist.over xs a).length <= xs.length:=Hist.placesFrom_len _ xs 0;refine cW [1,0] (sp_ints o1 o2 (Hist.over xs a) (Hist.over xs a) (by omega)) s6 rfl fun r3 h6 s7=>?_;obtain ⟨_,_,dj3,e3,⟨hr3,sm3⟩,sr3⟩:=s7;have s7:=dq ⟨_,_,dj3,e3,sm3,sr3⟩;have hr3:r3 = true:=hr3.trans (decide_eq_true rfl);subst hr3;refine dN rfl ?_;have s8:ay [etB ET EF,vE y xs] h6:=ce (l:=[_,_]) s7;refine cc (i:=1) (sp_ref2_May y xs z (by omega)) rfl s8 fun r4 h7 hr4 s9=>?_;have s9:ay [etB ET EF,vE y xs] h7:=s9;refine aX (fun d=>fin rfl s9) (fun d=>?_);have hmay:Hist.may xs z = true:=by
  have:r4 = true:=by simpa using d
  rw [← hr4]; exact this
 have hap:=Hist.may_apart hmay;refine ui (i:=1) (sp_hist_Done y xs (by omega)) rfl s9 fun dn h8 s10=>?_;have s10:ay [vI dn (Hist.done xs),etB ET EF,vE y xs] h8:=s10;have hyl:=(bY (j:=2) s10 rfl).1;have hdl:=(bY (j:=0) s10 rfl).1;have hdle:(Hist.done xs).length <= xs.length:=Hist.placesFrom_len _ xs 0;refine Lp.intro (fun (z:Int × Int) h=>∃ i:Nat,z.2 = i/\i <= xs.length/\z.1 = ((Hist.fXa (fun e=>e.fGa != 0) (xs.take i) 0).length:Nat)/\ay [vI dn (Hist.done xs),etB ET EF,vE y xs] h) (fun (z:Int × Int) _=>xs.length - z.2.toNat) ⟨0,rfl,Nat.zero_le _,rfl,s10⟩ ?_;rintro ⟨n,i⟩ h9 ⟨i,rfl,hi,hn,s11⟩;simp only at hn;subst hn;unfold jE;simp only;refine aX (fun d2=>?_) (fun d2=>?_)
 ·have hlt:i < xs.length:=by rw [hyl] at d2; simpa using d2
  have hda:=done_at (aB hlt);have hdt:=done_take (aB hlt);have hpl:=Hist.placesFrom_len (fun e=>e.fGa != 0) (xs.take i) 0;rw [length_take] at hpl;refine cU s11 (j:=2) rfl (by omega) (by omega) fun q hq=>?_;refine cX (j:=2) (i:=i) (k:=9) xs[i].fGa eK s11 rfl hq rfl (aB hlt) (c1 rfl rfl) ?_;refine aX (fun d3=>?_) (fun d3=>?_)
  ·have hpos:xs[i].fGa > 0:=of_decide_eq_true d3;have hne:(xs[i].fGa != 0) = true:=by simp; omega
   rw [hne,if_pos rfl] at hda hdt;generalize hA:Hist.fXa (fun e=>e.fGa != 0) (xs.take i) 0 = A at hda hdt hpl;have hlt2:A.length < (Hist.done xs).length:=by rw [hda]; simp
   have hget:(Hist.done xs)[A.length]? = some (i:Int):=by rw [hda,List.getElem?_append_right (le_refl _)]; simp
   refine eG (by rw [hdl]; simp; omega) ?_;refine cU s11 (j:=0) rfl (by omega) (by omega) fun q2 hq2=>?_;refine cX (j:=0) (i:=A.length) (k:=0) (i:Int) (cf _) s11 rfl hq2 rfl hget (by simp) ?_;refine dN (by simp) ?_;have hw:i64.wrap ((A.length:Int) + 1) = ((A.length + 1:Nat):Int):=by rw [bp (by omega) (by omega)]; rfl
   rw [hw];refine all_j1 hb hlt s11 fun h' s'=>⟨⟨i + 1,rfl,hlt,?_,s'⟩,by simp; omega⟩
   rw [hdt,List.length_append]; rfl
  ·have hz:xs[i].fGa = 0:=by
    have h1:¬ xs[i].fGa > 0:=of_decide_eq_false d3;have h2:=may_end (es:=xs) (z:=z) (last:=0) (seen:=[]) (ends:=[]) hmay (Int.le_refl _) xs[i] (List.getElem_mem hlt);omega
   have hne:(xs[i].fGa != 0) = false:=by rw [hz]; rfl
   rw [hne,if_neg (by simp),List.append_nil] at hdt;refine all_j1 hb hlt s11 fun h' s'=>⟨⟨i + 1,rfl,hlt,?_,s'⟩,by simp; omega⟩
   rw [hdt]
 ·have:i = xs.length:=by rw [hyl] at d2; simp at d2; omega
  subst this;have hfull:Hist.fXa (fun e=>e.fGa != 0) (xs.take xs.length) 0 = Hist.done xs:=by rw [List.take_length]; rfl
  rw [hfull,hdl];refine eG (by simp) ?_;have s12:ay [etB ET EF,vE y xs] h9:=ce (l:=[_]) s11;refine ui (i:=1) (sp_hist_Order20 y xs hb hap) rfl s12 fun o3 h10 s13=>?_;have s13:ay [vI o3 (Hist.order xs),etB ET EF,vE y xs] h10:=s13;refine ui (i:=2) (sp_ref2_Order y xs (by omega) hap) rfl s13 fun o4 h11 s14=>?_;have s14:ay [vI o4 (Hist.order xs),vI o3 (Hist.order xs),etB ET EF,vE y xs] h11:=s14;refine cW [1,0] (sp_ints o3 o4 (Hist.order xs) (Hist.order xs) ?_) s14 rfl fun r5 h12 s15=>?_
  ·have he:(Hist.order xs).length = (Hist.effs xs).length:=(Hist.isort_perm _ _).length_eq;rw [he];have:(Hist.effs xs).length <= xs.length:=Hist.placesFrom_len _ xs 0;omega
  obtain ⟨_,_,dj5,e5,⟨hr5,sm5⟩,sr5⟩:=s15;have s15:=dq ⟨_,_,dj5,e5,sm5,sr5⟩;exact fin (hr5.trans (decide_eq_true rfl)) (ce (l:=[_,_]) s15)
end
section
open Go Mb Go.ChangeShapes Go.WideShapes Go.RowKit
theorem Tryz.own:ownKnob prog.godebug = none:=by kernel_rfl
theorem Tryz.et:prog.globalNamed "errors.errorType" = some 0:=by kernel_rfl
theorem Tryz.rt:(prog.cutTypes.find? (·.1 == "internal/reflectlite.rtype")).map (·.2) = some se:=by kernel_rfl
abbrev laid:List (String × DataW Unit) := [("errors.errorType",Rows.laid_errors_errorType)]
theorem block_of_laid {W:World} (h:laidMetH prog laid W):∃ T F,W.heap[0]? = some (.cells #[rtV gM] T F):=by
 have h':laidMet prog [] W/\handlesMet prog laid W:=h;obtain ⟨name,u,ty,e1,e2,e3,e4,e5⟩:=h'.2 _ (List.mem_singleton.2 rfl);have en:name = [101,114,114,111,114]:=(Option.some.inj e1).symm;subst en;obtain rfl:=Option.some.inj (Tryz.rt.symm.trans e2);have hm:ty ∈ (List.range 318).filter fun t=>prog.rowNamed t [101,114,114,111,114]:=List.mem_filter.2 ⟨List.mem_range.2 (by rw [← g4]; exact e3),e4⟩;rw [oneErr] at hm;obtain rfl:=List.mem_singleton.1 hm;have hh:typeHandle prog 159 = .pointer (some ⟨4,159,none⟩):=by kernel_rfl
 rw [hh] at e5;unfold World.var? at e5;rw [Tryz.et] at e5;simp only [Option.bind_some] at e5;split at e5
 ·rename_i cs T F hq;cases e5;exact ⟨T,F,hq⟩
 ·cases e5
noncomputable def laidWorld (os:Os):World :=
 let w0:=World.holding prog os ⟨#[],#[],[]⟩
 { w0 with heap:=w0.heap.modify 0 fun
   | .cells _ t frozen=>.cells #[rtV gM] t frozen
   | o=>o }
theorem laidWorld_met (os:Os) (args:Array Value):laidMetH prog laid ((laidWorld os).forCall (fun _ _=>0) ⟨#[],args,[]⟩).memory :=
 laidMetH_of_parts (laidMet_nil _ _) (by kernel_rfl)
theorem keptBut_same {w w':World} {may:MemPlace->Prop} (h1:w'.os = w.os) (h2:w'.output = w.output) (h:∀ i,i < w.heap.size->w'.heap[i]? = w.heap[i]?):w.keptBut w' may:=by
 refine ⟨h1,h2,fun i hi=>?_⟩;have:=(World.keptBut_refl w may).2.2 i hi;rw [h i hi];exact this
def kindsB (P:Program) (fn:Func) (c:OpenClaim):Bool:=c.kinds == (if c.domain.isEmpty then [] else fn.params.toList.map fun t=>match P.underlying t with | some (.int k)=>some k | _=>none)
theorem joined_split {P:Program} {f:FuncId} {fn:Func} {s:ChangeSpec} {c:OpenClaim} (h1:(c.wf (OpenSpec.ofChange s) && laidOutB P && mapsRowed P) = true)
  (h2:(fn.params.all (P.readableRec ·) && namedTie P c.named s.vars && (c.stops == []) && (P.stops == []) && (c.knobs == []) && (P.stopKnobs == [])) = true)
  (h3:(c.inPlace == P.inPlace f) = true) (h4:(c.unfollowed == P.unfollowed f) = true) (h5:(c.recurses == P.recurses f) = true) (h6:(c.named == P.varsNamed f) = true)
  (h7:((c.maps == (fn.params.toList++s.plain.varTypes P).any (P.mapsRec ·)) && (c.ifaces == (fn.params.toList++s.plain.varTypes P).any (P.ifacesRec ·)) && (c.mapsOut == P.mapsAmong fn.resultTypes.toList) &&
 (c.loops == (fn.params.toList++s.plain.varTypes P).any (P.loopsFrom ·)) && (c.wideKeys == (fn.params.toList++s.plain.varTypes P++fn.resultTypes.toList).any (P.wideKeysFrom ·)) &&
 s.vars.all (P.varReadable ·) && fn.resultTypes.all (fun t=>P.readableRec t && decide (t < P.types.size)) && (c.ifacesOut == fn.resultTypes.toList.any (P.ifacesRec ·)) && (c.loopsOut == fn.resultTypes.toList.any (P.loopsFrom ·))) = true)
  (h8:(c.plainKeys == P.plainKeys) = true) (h9:(c.shortTexts.isNone && P.stopsHeard && P.mayEnter && (c.lifted == P.liftsFinal) && (P.make == some c.make) && kindsB P fn c && (c.pinned == c.pinnedBy) &&
 (c.veiled == (fn.params.toList++s.plain.varTypes P++fn.resultTypes.toList).any (P.veiledRec ·)) && c.veiledFits P fn.params.toList (fn.params.toList++s.plain.varTypes P++fn.resultTypes.toList)) = true):joinedFacts P f fn s c = true:=by
 unfold joinedFacts;unfold kindsB at h9;rw [and_eq_true] at h1 h2 h7 h9;simp only [and_eq_true] at h1 h2 h7 h9;obtain ⟨⟨a1,a2⟩,a3⟩:=h1;obtain ⟨⟨⟨⟨⟨b1,b2⟩,b3⟩,b4⟩,b5⟩,b6⟩:=h2;obtain ⟨⟨⟨⟨⟨⟨⟨⟨c1,c2⟩,c3⟩,c4⟩,c5⟩,c6⟩,c7⟩,c8⟩,c9⟩:=h7;obtain ⟨⟨⟨⟨⟨⟨⟨⟨d1,d2⟩,d3⟩,d4⟩,d5⟩,d6⟩,d7⟩,d8⟩,d9⟩:=h9;simp only [and_eq_true];exact ⟨⟨⟨⟨⟨⟨⟨⟨⟨⟨⟨⟨⟨⟨⟨⟨⟨⟨⟨⟨⟨⟨⟨⟨⟨⟨⟨⟨⟨⟨⟨a1,a2⟩,a3⟩,b1⟩,b2⟩,b3⟩,b4⟩,b5⟩,b6⟩,h3⟩,h4⟩,h5⟩,h6⟩,c1⟩,c2⟩,c3⟩,c4⟩,c5⟩,c6⟩,c7⟩,c8⟩,c9⟩,h8⟩,d1⟩,d2⟩,d3⟩,d4⟩,d5⟩,d6⟩,d7⟩,d8⟩,d9⟩
end
section
open Go Mb Go.ChangeShapes Go.WideShapes Go.RowKit
inductive FK where
 | i (k:IntKind)
 | b
def FK.ok:FK->Value->Prop
 | .i k,v=>∃ n,v = .int k n/\(Lit.int k n).wf = true
 | .b,v=>∃ x,v = .bool x
def sd:List FK->List Value->Prop
 | [],[]=>True
 | k::ks,v::vs=>k.ok v/\sd ks vs
 | _,_=>False
theorem sd.app:∀ {ks ls:List FK} {vs ws:List Value},sd ks vs->sd ls ws->sd (ks++ls) (vs++ws)
 | [],_,[],_,_,h=>h
 | _::_,_,_::_,_,h,g=>⟨h.1,h.2.app g⟩
 | [],_,_::_,_,h,_=>h.elim
 | _::_,_,[],_,h,_=>h.elim
theorem sd.len:∀ {ks:List FK} {vs:List Value},sd ks vs->vs.length = ks.length
 | [],[],_=>rfl
 | _::_,_::_,h=>by simp [h.2.len]
 | [],_::_,h=>h.elim
 | _::_,[],h=>h.elim
def fldK (P:Program) (r:TypeId->Option (List FK)):Nat->List Field->Option (List FK)
 | _,[]=>some []
 | o,f::fs=>if f.offset = o then (r f.type).bind fun ks=>if ks.length = P.cellsOf f.type then (fldK P r (o + ks.length) fs).map (ks++·) else none else none
def flatK (P:Program):Nat->TypeId->Option (List FK)
 | 0,_=>none
 | n + 1,t=>match P.underlying t with
  | some (.int k)=>some [.i k]
  | some .bool=>some [.b]
  | some (.struct fs)=>(fldK P (flatK P n) 0 fs.toList).bind fun ks=>if ks.length = P.cellsOf t then some ks else none
  | some (.array m e)=>(flatK P n e).bind fun ks=>if ks.length = P.cellsOf e/\m * ks.length = P.cellsOf t then some (List.replicate m ks).flatten else none
  | _=>none
section
variable {H:Type} {enc:TypeId × Value->H} {P:Program} {W:World} {base:Nat} {sp:Nat->Bool} {held:Bool}
theorem trod_array {t e m fuel:Nat} {cs:List Value} {x:DataW H × List MemPlace} (ht:P.underlying t = some (.array m e)) (h:DataW.trod enc P W base sp held fuel t cs = some x) :
  ∃ (xs:List (DataW H × List MemPlace)) (n:Nat),fuel = n + 1/\x = (.agg (xs.map (·.1)),xs.flatMap (·.2))/\cs.length = P.cellsOf t/\xs.length = m /\
   ∀ i,i < m->DataW.trod enc P W base sp held n e ((cs.drop (i * P.cellsOf e)).take (P.cellsOf e)) = xs[i]?:=by
 cases fuel with
 | zero=>simp [DataW.trod] at h
 | succ n =>
  unfold DataW.trod at h;rw [ht] at h;split at h <;> simp_all;obtain ⟨hl,xs,hp,hd⟩:=h;refine ⟨xs,hd.symm,by simpa using mapM_some_length hp,fun i hi=>mapM_some_get hp i i (by simp [hi])⟩
theorem flatMap_nil {α β:Type} {f:α->List β} {xs:List α} (h:∀ x ∈ xs,f x = []):xs.flatMap f = []:=by
 rw [List.flatMap_eq_nil_iff]; exact h
theorem take_drop_take (cs:List Value) (o n:Nat):(cs.drop o).take n++cs.drop (o + n) = cs.drop o:=by
 rw [← drop_drop,take_append_drop]
theorem fld_fits {r:TypeId->Option (List FK)} {cs:List Value} {g:TypeId->List Value->Option (DataW H × List MemPlace)} (hr:∀ t ks cs x,r t = some ks->g t cs = some x->sd ks cs/\x.2 = []) :
  ∀ (fs:List Field) (o:Nat) (ks:List FK),fldK P r o fs = some ks->(∀ f ∈ fs,∃ x,g f.type ((cs.drop f.offset).take (P.cellsOf f.type)) = some x)->o + ks.length = cs.length->sd ks (cs.drop o)
 | [],o,ks,h,_,hl=>by
  simp only [fldK,Option.some.injEq] at h;subst h;have:cs.drop o = []:=List.drop_eq_nil_of_le (by simp at hl; omega);rw [this]; trivial
 | f::fs,o,ks,h,hx,hl=>by
  unfold fldK at h;split at h
  ·rename_i ho;obtain ⟨ks1,h1,h2⟩:=bind_eq_some_iff.1 h;split at h2
   ·rename_i hc;obtain ⟨ks2,h3,rfl⟩:=Option.map_eq_some_iff.1 h2;obtain ⟨x,hx1⟩:=hx f (by simp);have f1:=(hr _ _ _ _ h1 hx1).1;have f2:=fld_fits hr fs (o + ks1.length) ks2 h3 (fun f' hf'=>hx f' (by simp [hf'])) (by simp at hl; omega);rw [ho,← hc] at f1;have:=f1.app f2
    rwa [take_drop_take] at this
   ·cases h2
  ·cases h
theorem arr_fits {ks:List FK} {c:Nat} (hc:ks.length = c):∀ (m:Nat) (cs:List Value),cs.length = m * c->(∀ i,i < m->sd ks ((cs.drop (i * c)).take c))->sd (List.replicate m ks).flatten cs
 | 0,cs,hl,_=>by
  have:cs = []:=List.eq_nil_of_length_eq_zero (by simpa using hl);subst this; trivial
 | m + 1,cs,hl,h=>by
  rw [List.replicate_succ,List.flatten_cons];have h0:=h 0 (by omega);simp only [Nat.zero_mul,List.drop_zero] at h0;have h1:=arr_fits hc m (cs.drop c) (by rw [List.length_drop,hl,succ_mul]; omega) (fun i hi=>by
   have:=h (i + 1) (by omega)
   rwa [drop_drop,Nat.add_comm,← succ_mul])
  have:=h0.app h1
  rwa [take_append_drop] at this
theorem trod_flat:∀ (n t:Nat) (ks:List FK),flatK P n t = some ks->∀ (fuel:Nat) (cs:List Value) (x:DataW H × List MemPlace),DataW.trod enc P W base sp held fuel t cs = some x->sd ks cs/\x.2 = []
 | 0,_,_,h,_,_,_,_=>by cases h
 | n + 1,t,ks,h,fuel,cs,x,hx=>by
  have ih:=trod_flat n;unfold flatK at h;split at h
  ·rename_i k hu;cases h;obtain ⟨m,rfl,rfl,hw⟩:=DataW.trod_int hu hx;exact ⟨⟨⟨m,rfl,hw⟩,trivial⟩,rfl⟩
  ·rename_i hu;cases h;obtain ⟨b,rfl,rfl⟩:=DataW.trod_bool hu hx;exact ⟨⟨⟨b,rfl⟩,trivial⟩,rfl⟩
  ·rename_i fs hu;obtain ⟨ks',h1,h2⟩:=bind_eq_some_iff.1 h;split at h2
   ·rename_i hc;cases h2;obtain ⟨xs,f,rfl,rfl,hl,hxl,hi⟩:=DataW.trod_struct hu hx;have hall:∀ fl ∈ fs.toList,∃ x,DataW.trod enc P W base sp held f fl.type ((cs.drop fl.offset).take (P.cellsOf fl.type)) = some x:=by
     intro fl hfl;obtain ⟨i,hi1,hi2⟩:=List.getElem_of_mem hfl;have:=hi i fl (by rw [← Array.getElem?_toList,getElem?_eq_getElem hi1,hi2]);have hlt:i < xs.length:=by rw [hxl]; simpa using hi1
     rw [getElem?_eq_getElem hlt] at this;exact ⟨_,this⟩
    refine ⟨?_,flatMap_nil fun y hy=>?_⟩
    ·have:=fld_fits (P:=P) (cs:=cs) (fun t ks cs x h=>ih t ks h f cs x) fs.toList 0 ks h1 hall (by rw [hc,hl]; omega);simpa using this
    ·obtain ⟨i,hi1,rfl⟩:=List.getElem_of_mem hy;have hif:i < fs.size:=by rw [← hxl]; exact hi1
     have h3:=hi i fs[i] (by simp [hif]);rw [getElem?_eq_getElem hi1] at h3;have key:∀ (l:List Field) (o:Nat) (ks:List FK),fldK P (flatK P n) o l = some ks->∀ fl ∈ l,∃ ks,flatK P n fl.type = some ks:=by
      intro l
      induction l with
      | nil=>intro _ _ _ fl h; cases h
      | cons a l ihl =>
       intro o ks hk fl hfl;unfold fldK at hk;split at hk
       ·obtain ⟨k1,hk1,hk2⟩:=bind_eq_some_iff.1 hk;rcases List.mem_cons.1 hfl with rfl | hfl
        ·exact ⟨_,hk1⟩
        ·split at hk2
         ·obtain ⟨k2,hk3,_⟩:=Option.map_eq_some_iff.1 hk2;exact ihl _ _ hk3 fl hfl
         ·cases hk2
       ·cases hk
     obtain ⟨ks2,hks2⟩:=key _ _ _ h1 fs[i] (by simp);exact (ih _ _ hks2 _ _ _ h3).2
   ·cases h2
  ·rename_i m e hu;obtain ⟨ks',h1,h2⟩:=bind_eq_some_iff.1 h;split at h2
   ·rename_i hc;cases h2;obtain ⟨xs,f,rfl,rfl,hl,hxl,hi⟩:=trod_array hu hx;have hat:∀ i,i < m->∃ x,xs[i]? = some x/\DataW.trod enc P W base sp held f e ((cs.drop (i * P.cellsOf e)).take (P.cellsOf e)) = some x:=fun i him=>by
     have:=hi i him;rw [getElem?_eq_getElem (by omega)] at this;exact ⟨_,getElem?_eq_getElem (by omega),this⟩
    refine ⟨arr_fits (by exact hc.1) m cs (by rw [hl,← hc.2,hc.1]) (fun i him=>?_),flatMap_nil fun y hy=>?_⟩
    ·obtain ⟨x,_,hx2⟩:=hat i him;exact (ih _ _ h1 _ _ _ hx2).1
    ·obtain ⟨i,hi1,rfl⟩:=List.getElem_of_mem hy;obtain ⟨x,hx1,hx2⟩:=hat i (by omega);rw [getElem?_eq_getElem hi1] at hx1;cases hx1;exact (ih _ _ h1 _ _ _ hx2).2
   ·cases h2
  ·cases h
end
structure Arg {τ:Type} (W:World) (m:Nat) (enc:τ->List Value) (s:Sl) (xs:List τ):Prop where
 len:s.len = xs.length
 cap:s.len <= s.cap
 row:s.cap = 0\/∃ b pre rest U fr,s.a = some (b,pre.length)/\s.cap * m <= s.len * m + rest.length/\s.g = some (pre,rest,U,fr)/\nf fr pre.length (s.cap * m)/\b ≠ 0/\W.heap[b]? = some (.cells (pre++(xs.flatMap enc++rest)).toArray U fr)
section
variable {H:Type} {enc:TypeId × Value->H} {P:Program} {W:World}
theorem has_spot {r:Reach} {b0:Nat} {t e:TypeId} {a:Addr} {len cap:Nat} (ht:P.underlying t = some (.slice e)) (h:Value.okWide P W r b0 t (.slice (some a) len cap)):a.spot = none/\∃ c T fr,W.heap[a.block]? = some (.cells c T fr):=by
 unfold Value.okWide at h;rw [ht] at h;unfold Cell.okWide at h;rw [ht] at h;simp only at h;unfold Cell.ok at h;rw [ht] at h;simp only at h;obtain ⟨_,_,_,hs,row,cells,h1,_⟩:=h;refine ⟨hs,?_⟩;unfold World.shape? at h1;split at h1
 ·rename_i c T fr hq;exact ⟨_,_,_,hq⟩
 ·cases h1
theorem open_arg {τ:Type} {b0 m:Nat} {t e:TypeId} {ks:List FK} {enc':τ->List Value} {v:Value} {d:DataW H} {ps:List MemPlace} {ET:Nat} {EF:Nat × Nat} {X:Value} (ht:P.underlying t = some (.slice e)) (hm:P.cellsOf e = m) (hk:flatK P 9 e = some ks) (hpos:0 < m)
  (dec:∀ cs,sd ks cs->∃ x:τ,enc' x = cs) (hval:Value.okWide P W .any b0 t v) (hd:DataW.Trod enc P W 0 (fun _=>true) true t v d ps) (hz:W.noneFrozen ps)
  (hw:W.heap[0]? = some (.cells #[X] ET EF)) (hX:∀ k,¬ FK.ok k X):∃ (s:Sl) (xs:List τ),v = sv s/\Arg W m enc' s xs:=by
 obtain ⟨a0,len0,rZ,rfl⟩:=okWide_slice ht hval;obtain ⟨fuel,hf⟩:=hd;rcases Go.Deep.open_slice ht hf with ⟨h1,_⟩ | ⟨a,len,cap,mm,n,D,Pl,h1,_,hl,_,hmm,hx,hi⟩
 ·simp only [Value.cells,List.cons.injEq,Value.slice.injEq,and_true] at h1;obtain ⟨rfl,rfl,rfl⟩:=h1;exact ⟨⟨none,0,0,none⟩,[],rfl,rfl,le_refl _,.inl rfl⟩
 ·simp only [Value.cells,List.cons.injEq,Value.slice.injEq,and_true] at h1;obtain ⟨rfl,rfl,rfl⟩:=h1;simp only [if_true] at hmm;subst hmm;obtain ⟨hs,c,T,fr,hb⟩:=has_spot ht hval;obtain ⟨b,off,spot⟩:=a;simp only at hs hb;subst hs;by_cases hc0:mm = 0
  ·subst hc0;obtain rfl:len0 = 0:=by omega
   exact ⟨⟨some (b,off),0,0,none⟩,[],rfl,rfl,le_refl _,.inl rfl⟩
  rw [hm] at hi hx;have lL:∀ i,i < mm->∃ x:τ,(enc' x).length = m/\sd ks (enc' x)/\∀ j,j < m->c.toList[off + i * m + j]? = (enc' x)[j]?:=by
   intro i him;obtain ⟨cs',h2,h3⟩:=hi i him;obtain ⟨_,hlen,hget⟩:=World.cells?_some h2;have hfit:=(trod_flat 9 e ks hk _ _ _ h3).1;obtain ⟨x,rfl⟩:=dec cs' hfit;refine ⟨x,hlen,hfit,fun j hj=>?_⟩;have:=hget j hj;rw [WideShapes.add_plain,WideShapes.add_plain] at this;rw [← this];unfold World.cell?;rw [hb];simp
  have hsize:off + mm * m <= c.toList.length:=by
   obtain ⟨x,hxl,_,hj⟩:=lL (mm - 1) (by omega);have h4:=hj (m - 1) (by omega);have h5:=(List.getElem?_eq_some_iff.1 (h4.trans (getElem?_eq_getElem (by omega)))).1;have:mm * m = (mm - 1) * m + m:=by rw [← succ_mul]; congr 1; omega
   omega
  have hflat:∀ k,k <= mm->∃ ys:List τ,ys.length = k/\(c.toList.drop off).take (k * m) = ys.flatMap enc':=by
   intro k
   induction k with
   | zero=>exact fun _=>⟨[],rfl,by simp⟩
   | succ k ih =>
    intro hk1;obtain ⟨ys,hy1,hy2⟩:=ih (by omega);obtain ⟨x,hxl,_,hj⟩:=lL k (by omega);refine ⟨ys++[x],by simp [hy1],?_⟩;rw [succ_mul,List.take_add,hy2,List.flatMap_append]
    congr 1
    simp only [List.flatMap_cons,List.flatMap_nil,List.append_nil];apply List.ext_getElem?;intro j;rw [drop_drop,List.getElem?_take,List.getElem?_drop];by_cases hjm:j < m
    ·rw [if_pos hjm,← hj j hjm]
    ·rw [if_neg hjm,List.getElem?_eq_none (by omega)]
  obtain ⟨xs,hx1,hx2⟩:=hflat len0 hl;have hlm:len0 * m <= mm * m:=Nat.mul_le_mul_right m hl;refine ⟨⟨some (b,off),len0,mm,some (c.toList.take off,c.toList.drop (off + len0 * m),T,fr)⟩,xs,rfl,hx1.symm,hl,.inr ⟨b,c.toList.take off,c.toList.drop (off + len0 * m),T,fr,?_,?_,rfl,?_,?_,?_⟩⟩
  ·rw [length_take,Nat.min_eq_left (by omega)]
  ·show mm * m <= len0 * m + _;rw [List.length_drop]; omega
  ·rw [length_take,Nat.min_eq_left (by omega)];intro j j1 j2;have j2':j < off + mm * m:=j2;have hp:MemPlace.cell b j ∈ ps:=by
    have hps:=congrArg Prod.snd hx;simp only at hps;rw [hps];refine List.mem_append_left _ (List.mem_map.2 ⟨j - off,List.mem_range.2 (by omega),?_⟩);show MemPlace.cell b (off + (j - off)) = _
    congr 1; omega
   have:=hz b j hp;unfold World.frozen? at this;simp only [hb] at this;exact this
  ·rintro rfl;rw [hw] at hb;cases hb;obtain ⟨x,hxl,hfit,hj⟩:=lL 0 (by omega);have h4:=hj 0 hpos;simp only [Nat.zero_mul,Nat.add_zero] at h4;cases hks:ks with
   | nil=>subst hks; have:=hfit.len; simp at this; simp [this] at hxl; omega
   | cons k ks' =>
    subst hks;cases hex:enc' x with
    | nil=>rw [hex] at hxl; simp at hxl; omega
    | cons y ys =>
     rw [hex] at hfit h4;simp only [List.getElem?_cons_zero] at h4;have h5:y = X:=by
      cases off with
      | zero=>simpa using h4.symm
      | succ o=>simp at h4
     exact hX k (h5 ▸ hfit.1)
  ·rw [hb]
   congr 2
   apply ext';show c.toList = c.toList.take off++(xs.flatMap enc'++c.toList.drop (off + len0 * m))
   rw [← hx2,← drop_drop,take_append_drop,take_append_drop]
theorem open_struct {b0:Nat} {t:TypeId} {fs:Array Field} {ks:List FK} {v:Value} {d:DataW H} {ps:List MemPlace} (ht:P.underlying t = some (.struct fs)) (hk:flatK P 9 t = some ks) (hval:Value.okWide P W .any b0 t v) (hd:DataW.Trod enc P W 0 (fun _=>true) true t v d ps):∃ cs:List Value,v = .agg cs.toArray/\sd ks cs:=by
 obtain ⟨cs,rfl,_⟩:=okWide_struct ht hval;obtain ⟨fuel,hf⟩:=hd;exact ⟨cs.toList,by simp,(trod_flat 9 t ks hk _ _ _ hf).1⟩
theorem trodAll_stays (hl:laidOutB P = true) {W':World} {sp':Nat->Bool}:∀ {ts:List TypeId} {vs:List Value} {ds:List (DataW H)} {ps:List MemPlace},(∀ t ∈ ts,P.readableRec t = true/\t < P.types.size) ->
  DataW.TrodAll enc P W 0 (fun _=>true) true ts vs ds ps->(∀ p ∈ ps,W.sameAt W' p)->(∀ p ∈ ps,sp' p.block = true)->DataW.TrodAll enc P W' 0 sp' true ts vs ds ps
 | [],_,_,_,_,h,_,_=>by
  obtain ⟨rfl,rfl,rfl⟩:=trodAll_nil h
  rfl
 | t::ts,_,_,_,hr,h,hs,hp=>by
  obtain ⟨v,vs,d,ds,a,b,rfl,rfl,rfl,h1,h2⟩:=trodAll_cons h;exact ⟨a,b,Go.WideElems.Trod_stays hl (hr t (by simp)).1 (hr t (by simp)).2 h1 (fun p q=>hs p (by simp [q])) (fun p q=>hp p (by simp [q])),trodAll_stays hl (fun t q=>hr t (by simp [q])) h2 (fun p q=>hs p (by simp [q])) (fun p q=>hp p (by simp [q])),rfl⟩
end
end
section
open Go Mb Go.ChangeShapes Go.WideShapes Go.RowKit
theorem no_iface (k:FK):¬ FK.ok k (rtV gM):=by
 cases k with
 | i k=>rintro ⟨n,h,_⟩; cases h
 | b=>rintro ⟨x,h⟩; cases h
theorem fit_cons {k:FK} {ks:List FK} {cs:List Value} (h:sd (k::ks) cs):∃ v vs,cs = v::vs/\k.ok v/\sd ks vs:=by
 cases cs with
 | nil=>exact h.elim
 | cons v vs=>exact ⟨v,vs,rfl,h.1,h.2⟩
theorem pS {k:IntKind} {ks:List FK} {cs:List Value} (h:sd (.i k::ks) cs):∃ (n:Int) (vs:List Value),cs = .int k n::vs/\(Lit.int k n).wf = true/\sd ks vs:=by
 obtain ⟨v,vs,rfl,⟨n,rfl,hw⟩,hf⟩:=fit_cons h;exact ⟨n,vs,rfl,hw,hf⟩
theorem fit_nil {cs:List Value} (h:sd [] cs):cs = []:=by
 cases cs with
 | nil=>rfl
 | cons v vs=>exact h.elim
theorem Arg.sub {τ:Type} {P:τ->Prop} {W:World} {m:Nat} {C:τ->List Value} {s:Sl} {xs:List {x:τ // P x}} (A:Arg W m (fun x=>C x.1) s xs):Arg W m C s (xs.map (·.1))/\∀ x ∈ xs.map (·.1),P x:=by
 refine ⟨⟨by simpa using A.len,A.cap,?_⟩,fun x hx=>?_⟩
 ·have e:(xs.map (·.1)).flatMap C = xs.flatMap (fun x=>C x.1):=by rw [List.flatMap_map]
  rw [e]; exact A.row
 ·obtain ⟨y,_,rfl⟩:=List.mem_map.1 hx;exact y.2
structure Same (W W':World):Prop where
 os:W'.os = W.os
 out:W'.output = W.output
 heap:∀ i,i < W.heap.size->W'.heap[i]? = W.heap[i]?
theorem Same.cell {W W':World} (s:Same W W') {p:MemPlace} (h:p.block < W.heap.size):W.sameAt W' p:=by
 cases p with
 | cell b off =>
  show W'.cell? _ = W.cell? _;unfold World.cell?;rw [s.heap b h]
 | map b=>exact s.heap b h
theorem run_spV {τ:Type} {T m:Nat} {enc:τ->List Value} {s:Sl} {xs:List τ} {f:FuncId} {vs:List Value} {ET:Nat} {EF:Nat × Nat} {W:World} (A:Arg W m enc s xs)
  (c:Sp prog f vs aD [etB ET EF,vec T m enc s xs] (fun r=>pa_ (r = true) [etB ET EF,vec T m enc s xs])) (hw:W.heap[0]? = some (.cells #[rtV gM] ET EF)) :
  Calls prog f vs.toArray W fun e W'=>e = .returned (.bool true)/\Same W W':=by
 have key:∀ (g:Hp),g 0 = none->(∀ b o,g b = some o->W.heap[b]? = some o)->vec T m enc s xs g->(∀ g',vec T m enc s xs g'->∀ b o,g b = some o->g' b = some o) ->
   Calls prog f vs.toArray W fun e W'=>e = .returned (.bool true)/\Same W W':=by
  intro g g0 gW gv gk;have hs:Sub (un (fx emp 0 (.cells #[rtV gM] ET EF)) g) W:=by
   intro b o ho;by_cases hb:b = 0
   ·subst hb; rw [un_left (kg _ _ _)] at ho; rw [hw]; exact ho
   ·rw [un_right (qS _ _ _ hb)] at ho; exact gW b o ho
  have hd:Dj (fx emp 0 (.cells #[rtV gM] ET EF)) g:=fun b=>by
   by_cases hb:b = 0
   ·subst hb; exact .inr g0
   ·exact .inl (qS _ _ _ hb)
  have hst:ay [etB ET EF,vec T m enc s xs] (un (fx emp 0 (.cells #[rtV gM] ET EF)) g):=⟨_,_,hd,rfl,kg _ _ _,xf gv⟩
  refine (c _ hst W hs).mono ?_;rintro e W' ⟨v,h',rfl,⟨r,rfl,q⟩,s',fr⟩;obtain ⟨rfl,q⟩:=q;obtain ⟨g1,a1,sub1⟩:=dZ (i:=0) (A:=etB ET EF) rfl q;obtain ⟨g2,a2,sub2⟩:=dZ (i:=1) (A:=vec T m enc s xs) rfl q;refine ⟨rfl,fr.os,fr.out,fun i hi=>?_⟩;rcases Nat.eq_zero_or_pos i with rfl | hp
  ·rw [s' _ _ (sub1 _ _ a1),hw]
  ·cases hg:g i with
   | none=>exact fr.same i hi (uv.2 ⟨qS _ _ _ (by omega),hg⟩)
   | some o=>rw [s' _ _ (sub2 _ _ (gk g2 a2 i o hg)),gW i o hg]
 rcases A.row with h0 | ⟨b,pre,rest,U,fr,h1,h2,h3,h4,h5,h6⟩
 ·exact key emp rfl (fun b o h=>by cases h) ⟨A.len,A.cap,.inl h0⟩ (fun _ _ b o h=>by cases h)
 ·by_cases h0:s.cap = 0
  ·exact key emp rfl (fun b o h=>by cases h) ⟨A.len,A.cap,.inl h0⟩ (fun _ _ b o h=>by cases h)
  ·refine key (fx emp b (.cells (pre++(xs.flatMap enc++rest)).toArray U fr)) (qS _ _ _ (Ne.symm h5)) ?_ ⟨A.len,A.cap,.inr ⟨b,pre,rest,U,fr,h1,h2,?_,kg _ _ _⟩⟩ ?_
   ·intro b' o ho;unfold fx at ho;split at ho
    ·rename_i hb; subst hb; rw [h6]; exact ho
    ·cases ho
   ·unfold gh; rw [h3]; exact ⟨rfl,h4⟩
   ·rintro g' ⟨_,_,r⟩ b' o ho;rcases r with r | ⟨c',pre',rest',U',fr',r1,_,r3,r4⟩
    ·exact absurd r h0
    ·rw [h1] at r1;unfold gh at r3;rw [h3] at r3;obtain ⟨r5,_⟩:=r3;simp only [Prod.mk.injEq] at r5;obtain ⟨rfl,rfl,rfl,rfl⟩:=r5;simp only [Option.some.injEq,Prod.mk.injEq] at r1;obtain ⟨rfl,_⟩:=r1;unfold fx at ho;split at ho
     ·rename_i hb; subst hb; cases ho; exact r4
     ·cases ho
theorem same_post {H:Type} {enc:TypeId × Value->H} {W W':World} {ts:List TypeId} {vs:List Value} {ds:List (DataW H)} {ps:List MemPlace} {sp:Nat->Bool} (hl:laidOutB prog = true) (hr:(ts.all fun t=>prog.readableRec t && decide (t < prog.types.size)) = true)
  (h:DataW.TrodAll enc prog W 0 (fun _=>true) true ts vs ds ps) (hlt:∀ p ∈ ps,p.block < W.heap.size) (s:Same W W') (hs:∀ p ∈ ps,sp p.block = true):DataW.TrodAll enc prog W' 0 sp true ts vs ds ps :=
 trodAll_stays hl (fun t ht=>by
  have:=List.all_eq_true.1 hr t ht;simp only [and_eq_true,decide_eq_true_eq] at this;exact this) h (fun p hp=>s.cell (hlt p hp)) hs
theorem want_all {ts:List TypeId} (h:(ts.all fun t=>!(prog.wantsStandIn t)) = true) {j:Nat} {t:TypeId} (ht:ts.toArray[j]? = some t):prog.wantsStandIn t = false:=by
 have:=List.all_eq_true.1 h t (List.mem_of_getElem? (by simpa using ht));simpa using this
end
section
open Go Mb Go.ChangeShapes Go.WideShapes Go.RowKit
theorem decHistAll40 (cs:List Value) (h:sd [.i .i64,.i .i64,.i .u64,.i .u64,.i .u64,.i .u64,.i .u64,.i .i64,.i .i64,.i .i64,.i .i64,.i .u64,.i .i64,.i .i64,.i .i64,.i .i64] cs):∃ x:{x:aq // sd [.i .i64,.i .i64,.i .u64,.i .u64,.i .u64,.i .u64,.i .u64,.i .i64,.i .i64,.i .i64,.i .i64,.i .u64,.i .i64,.i .i64,.i .i64,.i .i64] (aq.C x)},aq.C x.1 = cs:=by
 have h0:=h;obtain ⟨a0,r0,rfl,_,h⟩:=pS h;obtain ⟨a1,r1,rfl,_,h⟩:=pS h;obtain ⟨a2,r2,rfl,_,h⟩:=pS h;obtain ⟨a3,r3,rfl,_,h⟩:=pS h;obtain ⟨a4,r4,rfl,_,h⟩:=pS h;obtain ⟨a5,r5,rfl,_,h⟩:=pS h;obtain ⟨a6,r6,rfl,_,h⟩:=pS h;obtain ⟨a7,r7,rfl,_,h⟩:=pS h;obtain ⟨a8,r8,rfl,_,h⟩:=pS h;obtain ⟨a9,r9,rfl,_,h⟩:=pS h;obtain ⟨a10,r10,rfl,_,h⟩:=pS h;obtain ⟨a11,r11,rfl,_,h⟩:=pS h;obtain ⟨a12,r12,rfl,_,h⟩:=pS h;obtain ⟨a13,r13,rfl,_,h⟩:=pS h;obtain ⟨a14,r14,rfl,_,h⟩:=pS h;obtain ⟨a15,r15,rfl,_,h⟩:=pS h;obtain rfl:=fit_nil h;exact ⟨⟨⟨a0,a1,⟨a2,a3,a4,a5,a6⟩,a7,a8,a9,⟨a10,a11⟩,⟨a12,a13,a14,a15⟩⟩,h0⟩,rfl⟩
theorem decHistAll24 (cs:List Value) (h:sd [.i .i64,.i .i64,.i .i64] cs):∃ x:{x:aK // sd [.i .i64,.i .i64,.i .i64] (aK.C x)},aK.C x.1 = cs:=by
 have h0:=h;obtain ⟨a0,r0,rfl,_,h⟩:=pS h;obtain ⟨a1,r1,rfl,_,h⟩:=pS h;obtain ⟨a2,r2,rfl,_,h⟩:=pS h;obtain rfl:=fit_nil h;exact ⟨⟨⟨a0,a1,a2⟩,h0⟩,rfl⟩
set_option maxRecDepth 100000 in
theorem lifted_3 (os:Os) (started:os.Started) (H:Type) (enc:TypeId × Value->H) :
  ReturnsInHanded {} Tryz.checked os 3 .any (fun w args=>(Rows.histAllSpec.pre enc prog Tryz.f3 [] false w args/\laidMetH prog laid w)/\sizedMet enc prog Tryz.f3 (OpenSpec.ofChange Rows.histAllSpec) false w args)
   (Rows.histAllSpec.post enc prog Tryz.f3 false true false false):=by
 refine returnsInHanded_of_change_and (C:=Tryz.checked) (X:=fun w _=>laidMetH prog laid w) (fun _ _ _ hh h=>h.of_heap hh) Tryz.own started (by kernel_rfl) func3
  (ChangeSpec.witness_at (enc:=enc) (C:=Tryz.checked) (os:=os) (X:=fun w _=>laidMetH prog laid w) false (laidWorld os) #[.slice none 0 0,.agg #[.int .i64 0,.int .i64 0,.int .i64 0],.int .i64 0] 8 rfl (by kernel_rfl) (by kernel_rfl) (by kernel_rfl) (by kernel_rfl) (by kernel_rfl) (laidWorld_met os _)) ?_
 intro W base args ds gs before hval0 hW _ _ hL _;have hval:∀ (j:Nat) t v,Tryz.f3.params[j]? = some t->args[j]? = some v->Value.okWide prog W .any base t v:=hval0;have hW':=hW;obtain ⟨p,q,hA0,hV0,rfl,hfz,hnd⟩:=hW;have hA:DataW.TrodAll enc prog W 0 (fun _=>true) true Tryz.f3.params.toList args.toList ds p:=hA0;have hV:DataW.TrodVars enc prog W (fun _=>true) [] gs q:=hV0;rw [Tryz.params3] at hA hval;have hst:=hA;obtain ⟨T,F,hb⟩:=block_of_laid hL;obtain ⟨rfl,rfl⟩:gs = []/\q = []:=by
  cases gs with
  | nil=>exact ⟨rfl,hV⟩
  | cons g r=>exact absurd hV (by intro h; cases h)
 obtain ⟨v0,w0,d0,e0,p0,q0,hx0,rfl,rfl,h0,hA0⟩:=trodAll_cons hA;obtain ⟨v1,w1,d1,e1,p1,q1,hx1,rfl,rfl,h1,hA1⟩:=trodAll_cons hA0;obtain ⟨v2,w2,d2,e2,p2,q2,hx2,rfl,rfl,h2,hA2⟩:=trodAll_cons hA1;obtain ⟨hy,rfl,rfl⟩:=trodAll_nil hA2;subst hy;subst hx2;subst hx1;obtain rfl:args = #[v0,v1,v2]:=by apply ext'; exact hx0
 obtain ⟨s0,ys0,rfl,A0⟩:=open_arg (m:=16) (ks:=[.i .i64,.i .i64,.i .u64,.i .u64,.i .u64,.i .u64,.i .u64,.i .i64,.i .i64,.i .i64,.i .i64,.i .u64,.i .i64,.i .i64,.i .i64,.i .i64]) (enc':=fun x:{x:aq // sd [.i .i64,.i .i64,.i .u64,.i .u64,.i .u64,.i .u64,.i .u64,.i .i64,.i .i64,.i .i64,.i .i64,.i .u64,.i .i64,.i .i64,.i .i64,.i .i64] (aq.C x)}=>aq.C x.1) underlying22 (by kernel_rfl) (by kernel_rfl) (by decide) decHistAll40 (hval 0 22 v0 rfl rfl) h0 (fun b o hb=>hfz b o (by simp [hb])) hb no_iface;obtain ⟨A0,hf0⟩:=A0.sub;generalize ys0.map (·.1) = xs0 at A0 hf0;obtain ⟨c1,rfl,hc1⟩:=open_struct (ks:=[.i .i64,.i .i64,.i .i64]) underlying24 (by kernel_rfl) (hval 1 24 v1 rfl rfl) h1;obtain ⟨⟨z1,hf1⟩,rfl⟩:=decHistAll24 _ hc1;obtain ⟨n2,rfl,rfl,rfl,hw2⟩:=open_int underlying3 (hval 2 3 v2 rfl rfl) h2;refine (run_spV A0 (ET:=T) (EF:=F) (sp_HistAll s0 xs0 z1 n2) hb).mono fun e W' ⟨he,hk⟩=>?_;subst he;refine ⟨_,rfl,_,_,_,[],(p0++(p1++(([]:List MemPlace)++[]))),[],hW',?_,?_,?_,keptBut_same hk.os hk.out hk.heap,fun h=>by cases h⟩
 ·exact trodAll_mk1 (shut_bool underlying4 true)
 ·exact same_post (by kernel_rfl) (by kernel_rfl) hst (fun p hp=>hW'.lt p (List.mem_append_left _ hp)) hk (fun p hp=>by simpa using hW'.lt p (List.mem_append_left _ hp))
 ·rfl
end
section
open Go Mb Go.ChangeShapes Go.WideShapes Go.RowKit
theorem jf0:Tryz.pinned.checked.prog.funcNamed Rows.histAllRow.func = some 3:=by kernel_rfl
theorem jf1:(Rows.histAllRow.wf (OpenSpec.ofChange Rows.histAllSpec) && laidOutB Tryz.pinned.checked.prog && mapsRowed Tryz.pinned.checked.prog) = true:=by kernel_rfl
theorem jf2:(Tryz.f3.params.all (Tryz.pinned.checked.prog.readableRec ·) && namedTie Tryz.pinned.checked.prog Rows.histAllRow.named Rows.histAllSpec.vars && (Rows.histAllRow.stops == []) && (Tryz.pinned.checked.prog.stops == []) && (Rows.histAllRow.knobs == []) && (Tryz.pinned.checked.prog.stopKnobs == [])) = true:=by kernel_rfl
theorem jf3:(Rows.histAllRow.inPlace == Tryz.pinned.checked.prog.inPlace 3) = true:=by kernel_rfl
theorem jf4:(Rows.histAllRow.unfollowed == Tryz.pinned.checked.prog.unfollowed 3) = true:=by kernel_rfl
theorem jf5:(Rows.histAllRow.recurses == Tryz.pinned.checked.prog.recurses 3) = true:=by kernel_rfl
theorem jf6:(Rows.histAllRow.named == Tryz.pinned.checked.prog.varsNamed 3) = true:=by kernel_rfl
theorem jf7:((Rows.histAllRow.maps == (Tryz.f3.params.toList++Rows.histAllSpec.plain.varTypes Tryz.pinned.checked.prog).any (Tryz.pinned.checked.prog.mapsRec ·)) && (Rows.histAllRow.ifaces == (Tryz.f3.params.toList++Rows.histAllSpec.plain.varTypes Tryz.pinned.checked.prog).any (Tryz.pinned.checked.prog.ifacesRec ·)) && (Rows.histAllRow.mapsOut == Tryz.pinned.checked.prog.mapsAmong Tryz.f3.resultTypes.toList) &&
 (Rows.histAllRow.loops == (Tryz.f3.params.toList++Rows.histAllSpec.plain.varTypes Tryz.pinned.checked.prog).any (Tryz.pinned.checked.prog.loopsFrom ·)) && (Rows.histAllRow.wideKeys == (Tryz.f3.params.toList++Rows.histAllSpec.plain.varTypes Tryz.pinned.checked.prog++Tryz.f3.resultTypes.toList).any (Tryz.pinned.checked.prog.wideKeysFrom ·)) &&
 Rows.histAllSpec.vars.all (Tryz.pinned.checked.prog.varReadable ·) && Tryz.f3.resultTypes.all (fun t=>Tryz.pinned.checked.prog.readableRec t && decide (t < Tryz.pinned.checked.prog.types.size)) && (Rows.histAllRow.ifacesOut == Tryz.f3.resultTypes.toList.any (Tryz.pinned.checked.prog.ifacesRec ·)) && (Rows.histAllRow.loopsOut == Tryz.f3.resultTypes.toList.any (Tryz.pinned.checked.prog.loopsFrom ·))) = true:=by kernel_rfl
theorem jf8:(Rows.histAllRow.plainKeys == Tryz.pinned.checked.prog.plainKeys) = true:=by kernel_rfl
theorem jf9:(Rows.histAllRow.shortTexts.isNone && Tryz.pinned.checked.prog.stopsHeard && Tryz.pinned.checked.prog.mayEnter && (Rows.histAllRow.lifted == Tryz.pinned.checked.prog.liftsFinal) && (Tryz.pinned.checked.prog.make == some Rows.histAllRow.make) && kindsB Tryz.pinned.checked.prog Tryz.f3 Rows.histAllRow && (Rows.histAllRow.pinned == Rows.histAllRow.pinnedBy) &&
 (Rows.histAllRow.veiled == (Tryz.f3.params.toList++Rows.histAllSpec.plain.varTypes Tryz.pinned.checked.prog++Tryz.f3.resultTypes.toList).any (Tryz.pinned.checked.prog.veiledRec ·)) && Rows.histAllRow.veiledFits Tryz.pinned.checked.prog Tryz.f3.params.toList (Tryz.f3.params.toList++Rows.histAllSpec.plain.varTypes Tryz.pinned.checked.prog++Tryz.f3.resultTypes.toList)) = true:=by kernel_rfl
theorem said_3:Rows.HistAllSaid :=
 OpenClaim.holds_of_wide 3 Tryz.f3 rfl rfl rfl rfl rfl rfl rfl ⟨rfl,rfl,rfl,rfl,rfl⟩ rfl rfl rfl rfl rfl jf0 func3 (joined_split jf1 jf2 jf3 jf4 jf5 jf6 jf7 jf8 jf9)
  (of_decide_eq_true (by kernel_rfl)) (by unfold Func.isWrapper; rw [if_neg (of_decide_eq_false (by kernel_rfl))]; exact ⟨rfl,rfl⟩)
  (fun os started H enc _=>lifted_3 os started H enc)
theorem histAll_holds:Rows.HistAllCardSaid :=
 Claim7.holds_tied_plain_at .later [] [.handle] true (true, "40798a6ac0d80a7f6cda2fa5a230fce821d92e44fca2d767fd684b4a67c4b18b") true
  said_3 (fun _ h=>by cases h) (by kernel_rfl) (fun _ h=>by cases h) histAll_row_tie rfl ⟨rfl,rfl⟩ (by kernel_rfl) rfl
  (fun f fn hf hfn=>by
   obtain rfl:f = 3:=Option.some.inj ((show prog.funcNamed "messuage/messuagelaw16.HistAll" = some 3 by kernel_rfl).symm.trans hf) |>.symm;obtain rfl:fn = Tryz.f3:=(Option.some.inj (func3.symm.trans hfn)).symm;exact ⟨by kernel_rfl,fun j t ht=>by
    rw [Tryz.params3] at ht;exact want_all (by kernel_rfl) (j:=j) (t:=t) ht⟩)
  (by kernel_rfl)
end
end Go.Proofs.YtochchocdckegaaGreatDoor
