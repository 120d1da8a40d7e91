/- The law HistReal returns true for every input, and leaves its arguments as they were. -/
import Derived.Test.YtemoifebbhoinaaGreatDoorHistReal17
import Derived.Test.YtemoifebbhoinaaGreatDoorCards
import Derived.Test.YtemoifebbhoinaaGreatDoorRows
import Derived.Test.YtemoifebbhoinaaGreatDoorTie
set_option linter.all false
set_option maxRecDepth 20000
namespace Go.Proofs.YtemoifebbhoinaaGreatDoor
open Go.Proofs.Tryz
open Go.IntKind (i64 u64)
open _root_.Array (ext')
open _root_.Bool (and_eq_true)
open _root_.Int (le_refl)
open _root_.List (drop_drop getElem?_eq_getElem getElem_of_mem length_take map_cons take_append_drop)
open _root_.Nat (succ_mul zero_le)
open _root_.Option (bind_eq_some_iff)
section
open Go Mb Go.ChangeShapes Go.WideShapes Go.RowKit
theorem Tryz.own:ownKnob prog.godebug = none:=by kernel_rfl
theorem Tryz.et:prog.globalNamed "errors.errorType" = some 0:=by kernel_rfl
theorem Tryz.rt:(prog.cutTypes.find? (·.1 == "internal/reflectlite.rtype")).map (·.2) = some so:=by kernel_rfl
abbrev laid:List (String × DataW Unit) := [("errors.errorType",Rows.laid_errors_errorType)]
theorem block_of_laid {W:World} (h:laidMetH prog laid W):∃ T F,W.heap[0]? = some (.cells #[rtV gH] T F):=by
 have h':laidMet prog [] W/\handlesMet prog laid W:=h
 obtain ⟨name,u,ty,e1,e2,e3,e4,e5⟩:=h'.2 _ (List.mem_singleton.2 rfl)
 have en:name = [101,114,114,111,114]:=(Option.some.inj e1).symm
 subst en
 obtain rfl:=Option.some.inj (Tryz.rt.symm.trans e2)
 have hm:ty ∈ (List.range 351).filter fun t=>prog.rowNamed t [101,114,114,111,114]:=List.mem_filter.2 ⟨List.mem_range.2 (by rw [← g4]; exact e3),e4⟩
 rw [oneErr] at hm
 obtain rfl:=List.mem_singleton.1 hm
 have hh:typeHandle prog 199 = .pointer (some ⟨4,199,none⟩):=by kernel_rfl
 rw [hh] at e5
 unfold World.var? at e5
 rw [Tryz.et] at e5
 simp only [Option.bind_some] at e5
 split at e5
 ·rename_i cs T F hq
  cases e5
  exact ⟨T,F,hq⟩
 ·cases e5
noncomputable def laidWorld (os:Os):World :=
 let w0:=World.holding prog os ⟨#[],#[],[]⟩
 { w0 with heap:=w0.heap.modify 0 fun
   | .cells _ t frozen=>.cells #[rtV gH] t frozen
   | o=>o }
theorem laidWorld_met (os:Os) (args:Array Value):laidMetH prog laid ((laidWorld os).forCall (fun _ _=>0) ⟨#[],args,[]⟩).memory :=
 laidMetH_of_parts (laidMet_nil _ _) (by kernel_rfl)
theorem keptBut_same {w w':World} {may:MemPlace->Prop} (h1:w'.os = w.os) (h2:w'.output = w.output) (h:∀ i,i < w.heap.size->w'.heap[i]? = w.heap[i]?):w.keptBut w' may:=by
 refine ⟨h1,h2,fun i hi=>?_⟩
 have:=(World.keptBut_refl w may).2.2 i hi
 rw [h i hi]
 exact this
def kindsB (P:Program) (fn:Func) (c:OpenClaim):Bool:=c.kinds == (if c.domain.isEmpty then [] else fn.params.toList.map fun t=>match P.underlying t with | some (.int k)=>some k | _=>none)
theorem joined_split {P:Program} {f:FuncId} {fn:Func} {s:ChangeSpec} {c:OpenClaim} (h1:(c.wf (OpenSpec.ofChange s) && laidOutB P && mapsRowed P) = true)
  (h2:(fn.params.all (P.readableRec ·) && namedTie P c.named s.vars && (c.stops == []) && (P.stops == []) && (c.knobs == []) && (P.stopKnobs == [])) = true)
  (h3:(c.inPlace == P.inPlace f) = true) (h4:(c.unfollowed == P.unfollowed f) = true) (h5:(c.recurses == P.recurses f) = true) (h6:(c.named == P.varsNamed f) = true)
  (h7:((c.maps == (fn.params.toList++s.plain.varTypes P).any (P.mapsRec ·)) && (c.ifaces == (fn.params.toList++s.plain.varTypes P).any (P.ifacesRec ·)) && (c.mapsOut == P.mapsAmong fn.resultTypes.toList) &&
 (c.loops == (fn.params.toList++s.plain.varTypes P).any (P.loopsFrom ·)) && (c.wideKeys == (fn.params.toList++s.plain.varTypes P++fn.resultTypes.toList).any (P.wideKeysFrom ·)) &&
 s.vars.all (P.varReadable ·) && fn.resultTypes.all (fun t=>P.readableRec t && decide (t < P.types.size)) && (c.ifacesOut == fn.resultTypes.toList.any (P.ifacesRec ·)) && (c.loopsOut == fn.resultTypes.toList.any (P.loopsFrom ·))) = true)
  (h8:(c.plainKeys == P.plainKeys) = true) (h9:(c.shortTexts.isNone && P.stopsHeard && P.mayEnter && (c.lifted == P.liftsFinal) && (P.make == some c.make) && kindsB P fn c && (c.pinned == c.pinnedBy) &&
 (c.veiled == (fn.params.toList++s.plain.varTypes P++fn.resultTypes.toList).any (P.veiledRec ·)) && c.veiledFits P fn.params.toList (fn.params.toList++s.plain.varTypes P++fn.resultTypes.toList)) = true):joinedFacts P f fn s c = true:=by
 unfold joinedFacts
 unfold kindsB at h9
 rw [and_eq_true] at h1 h2 h7 h9
 simp only [and_eq_true] at h1 h2 h7 h9
 obtain ⟨⟨a1,a2⟩,a3⟩:=h1
 obtain ⟨⟨⟨⟨⟨b1,b2⟩,b3⟩,b4⟩,b5⟩,b6⟩:=h2
 obtain ⟨⟨⟨⟨⟨⟨⟨⟨c1,c2⟩,c3⟩,c4⟩,c5⟩,c6⟩,c7⟩,c8⟩,c9⟩:=h7
 obtain ⟨⟨⟨⟨⟨⟨⟨⟨d1,d2⟩,d3⟩,d4⟩,d5⟩,d6⟩,d7⟩,d8⟩,d9⟩:=h9
 simp only [and_eq_true]
 exact ⟨⟨⟨⟨⟨⟨⟨⟨⟨⟨⟨⟨⟨⟨⟨⟨⟨⟨⟨⟨⟨⟨⟨⟨⟨⟨⟨⟨⟨⟨⟨a1,a2⟩,a3⟩,b1⟩,b2⟩,b3⟩,b4⟩,b5⟩,b6⟩,h3⟩,h4⟩,h5⟩,h6⟩,c1⟩,c2⟩,c3⟩,c4⟩,c5⟩,c6⟩,c7⟩,c8⟩,c9⟩,h8⟩,d1⟩,d2⟩,d3⟩,d4⟩,d5⟩,d6⟩,d7⟩,d8⟩,d9⟩
end
section
open Go Mb Go.ChangeShapes Go.WideShapes Go.RowKit
inductive FK where
 | i (k:IntKind)
 | b
def FK.ok:FK->Value->Prop
 | .i k,v=>∃ n,v = .int k n/\(Lit.int k n).wf = true
 | .b,v=>∃ x,v = .bool x
def rT:List FK->List Value->Prop
 | [],[]=>True
 | k::ks,v::vs=>k.ok v/\rT ks vs
 | _,_=>False
theorem rT.app:∀ {ks ls:List FK} {vs ws:List Value},rT ks vs->rT ls ws->rT (ks++ls) (vs++ws)
 | [],_,[],_,_,h=>h
 | _::_,_,_::_,_,h,g=>⟨h.1,h.2.app g⟩
 | [],_,_::_,_,h,_=>h.elim
 | _::_,_,[],_,h,_=>h.elim
theorem rT.len:∀ {ks:List FK} {vs:List Value},rT ks vs->vs.length = ks.length
 | [],[],_=>rfl
 | _::_,_::_,h=>by simp [h.2.len]
 | [],_::_,h=>h.elim
 | _::_,[],h=>h.elim
def fldK (P:Program) (r:TypeId->Option (List FK)):Nat->List Field->Option (List FK)
 | _,[]=>some []
 | o,f::fs=>if f.offset = o then (r f.type).bind fun ks=>if ks.length = P.cellsOf f.type then (fldK P r (o + ks.length) fs).map (ks++·) else none else none
def flatK (P:Program):Nat->TypeId->Option (List FK)
 | 0,_=>none
 | n + 1,t=>match P.underlying t with
  | some (.int k)=>some [.i k]
  | some .bool=>some [.b]
  | some (.struct fs)=>(fldK P (flatK P n) 0 fs.toList).bind fun ks=>if ks.length = P.cellsOf t then some ks else none
  | some (.array m e)=>(flatK P n e).bind fun ks=>if ks.length = P.cellsOf e/\m * ks.length = P.cellsOf t then some (List.replicate m ks).flatten else none
  | _=>none
section
variable {H:Type} {enc:TypeId × Value->H} {P:Program} {W:World} {base:Nat} {sp:Nat->Bool} {held:Bool}
theorem trod_array {t e m fuel:Nat} {cs:List Value} {x:DataW H × List MemPlace} (ht:P.underlying t = some (.array m e)) (h:DataW.trod enc P W base sp held fuel t cs = some x) :
  ∃ (xs:List (DataW H × List MemPlace)) (n:Nat),fuel = n + 1/\x = (.agg (xs.map (·.1)),xs.flatMap (·.2))/\cs.length = P.cellsOf t/\xs.length = m /\
   ∀ i,i < m->DataW.trod enc P W base sp held n e ((cs.drop (i * P.cellsOf e)).take (P.cellsOf e)) = xs[i]?:=by
 cases fuel with
 | zero=>simp [DataW.trod] at h
 | succ n =>
  unfold DataW.trod at h
  rw [ht] at h
  split at h <;> simp_all
  obtain ⟨hl,xs,hp,hd⟩:=h
  refine ⟨xs,hd.symm,by simpa using mapM_some_length hp,fun i hi=>mapM_some_get hp i i (by simp [hi])⟩
theorem flatMap_nil {α β:Type} {f:α->List β} {xs:List α} (h:∀ x ∈ xs,f x = []):xs.flatMap f = []:=by
 rw [List.flatMap_eq_nil_iff]; exact h
theorem take_drop_take (cs:List Value) (o n:Nat):(cs.drop o).take n++cs.drop (o + n) = cs.drop o:=by
 rw [← drop_drop,take_append_drop]
theorem fld_fits {r:TypeId->Option (List FK)} {cs:List Value} {g:TypeId->List Value->Option (DataW H × List MemPlace)} (hr:∀ t ks cs x,r t = some ks->g t cs = some x->rT ks cs/\x.2 = []) :
  ∀ (fs:List Field) (o:Nat) (ks:List FK),fldK P r o fs = some ks->(∀ f ∈ fs,∃ x,g f.type ((cs.drop f.offset).take (P.cellsOf f.type)) = some x)->o + ks.length = cs.length->rT ks (cs.drop o)
 | [],o,ks,h,_,hl=>by
  simp only [fldK,Option.some.injEq] at h
  subst h
  have:cs.drop o = []:=List.drop_eq_nil_of_le (by simp at hl; omega)
  rw [this]; trivial
 | f::fs,o,ks,h,hx,hl=>by
  unfold fldK at h
  split at h
  ·rename_i ho
   obtain ⟨ks1,h1,h2⟩:=bind_eq_some_iff.1 h
   split at h2
   ·rename_i hc
    obtain ⟨ks2,h3,rfl⟩:=Option.map_eq_some_iff.1 h2
    obtain ⟨x,hx1⟩:=hx f (by simp)
    have f1:=(hr _ _ _ _ h1 hx1).1
    have f2:=fld_fits hr fs (o + ks1.length) ks2 h3 (fun f' hf'=>hx f' (by simp [hf'])) (by simp at hl; omega)
    rw [ho,← hc] at f1
    have:=f1.app f2
    rwa [take_drop_take] at this
   ·cases h2
  ·cases h
theorem arr_fits {ks:List FK} {c:Nat} (hc:ks.length = c):∀ (m:Nat) (cs:List Value),cs.length = m * c->(∀ i,i < m->rT ks ((cs.drop (i * c)).take c))->rT (List.replicate m ks).flatten cs
 | 0,cs,hl,_=>by
  have:cs = []:=List.eq_nil_of_length_eq_zero (by simpa using hl)
  subst this; trivial
 | m + 1,cs,hl,h=>by
  rw [List.replicate_succ,List.flatten_cons]
  have h0:=h 0 (by omega)
  simp only [Nat.zero_mul,List.drop_zero] at h0
  have h1:=arr_fits hc m (cs.drop c) (by rw [List.length_drop,hl,succ_mul]; omega) (fun i hi=>by
   have:=h (i + 1) (by omega)
   rwa [drop_drop,Nat.add_comm,← succ_mul])
  have:=h0.app h1
  rwa [take_append_drop] at this
theorem trod_flat:∀ (n t:Nat) (ks:List FK),flatK P n t = some ks->∀ (fuel:Nat) (cs:List Value) (x:DataW H × List MemPlace),DataW.trod enc P W base sp held fuel t cs = some x->rT ks cs/\x.2 = []
 | 0,_,_,h,_,_,_,_=>by cases h
 | n + 1,t,ks,h,fuel,cs,x,hx=>by
  have ih:=trod_flat n
  unfold flatK at h
  split at h
  ·rename_i k hu
   cases h
   obtain ⟨m,rfl,rfl,hw⟩:=DataW.trod_int hu hx
   exact ⟨⟨⟨m,rfl,hw⟩,trivial⟩,rfl⟩
  ·rename_i hu
   cases h
   obtain ⟨b,rfl,rfl⟩:=DataW.trod_bool hu hx
   exact ⟨⟨⟨b,rfl⟩,trivial⟩,rfl⟩
  ·rename_i fs hu
   obtain ⟨ks',h1,h2⟩:=bind_eq_some_iff.1 h
   split at h2
   ·rename_i hc
    cases h2
    obtain ⟨xs,f,rfl,rfl,hl,hxl,hi⟩:=DataW.trod_struct hu hx
    have hall:∀ fl ∈ fs.toList,∃ x,DataW.trod enc P W base sp held f fl.type ((cs.drop fl.offset).take (P.cellsOf fl.type)) = some x:=by
     intro fl hfl
     obtain ⟨i,hi1,hi2⟩:=getElem_of_mem hfl
     have:=hi i fl (by rw [← Array.getElem?_toList,getElem?_eq_getElem hi1,hi2])
     have hlt:i < xs.length:=by rw [hxl]; simpa using hi1
     rw [getElem?_eq_getElem hlt] at this
     exact ⟨_,this⟩
    refine ⟨?_,flatMap_nil fun y hy=>?_⟩
    ·have:=fld_fits (P:=P) (cs:=cs) (fun t ks cs x h=>ih t ks h f cs x) fs.toList 0 ks h1 hall (by rw [hc,hl]; omega)
     simpa using this
    ·obtain ⟨i,hi1,rfl⟩:=getElem_of_mem hy
     have hif:i < fs.size:=by rw [← hxl]; exact hi1
     have h3:=hi i fs[i] (by simp [hif])
     rw [getElem?_eq_getElem hi1] at h3
     have key:∀ (l:List Field) (o:Nat) (ks:List FK),fldK P (flatK P n) o l = some ks->∀ fl ∈ l,∃ ks,flatK P n fl.type = some ks:=by
      intro l
      induction l with
      | nil=>intro _ _ _ fl h; cases h
      | cons a l ihl =>
       intro o ks hk fl hfl
       unfold fldK at hk
       split at hk
       ·obtain ⟨k1,hk1,hk2⟩:=bind_eq_some_iff.1 hk
        rcases List.mem_cons.1 hfl with rfl | hfl
        ·exact ⟨_,hk1⟩
        ·split at hk2
         ·obtain ⟨k2,hk3,_⟩:=Option.map_eq_some_iff.1 hk2
          exact ihl _ _ hk3 fl hfl
         ·cases hk2
       ·cases hk
     obtain ⟨ks2,hks2⟩:=key _ _ _ h1 fs[i] (by simp)
     exact (ih _ _ hks2 _ _ _ h3).2
   ·cases h2
  ·rename_i m e hu
   obtain ⟨ks',h1,h2⟩:=bind_eq_some_iff.1 h
   split at h2
   ·rename_i hc
    cases h2
    obtain ⟨xs,f,rfl,rfl,hl,hxl,hi⟩:=trod_array hu hx
    have hat:∀ i,i < m->∃ x,xs[i]? = some x/\DataW.trod enc P W base sp held f e ((cs.drop (i * P.cellsOf e)).take (P.cellsOf e)) = some x:=fun i him=>by
     have:=hi i him
     rw [getElem?_eq_getElem (by omega)] at this
     exact ⟨_,getElem?_eq_getElem (by omega),this⟩
    refine ⟨arr_fits (by exact hc.1) m cs (by rw [hl,← hc.2,hc.1]) (fun i him=>?_),flatMap_nil fun y hy=>?_⟩
    ·obtain ⟨x,_,hx2⟩:=hat i him
     exact (ih _ _ h1 _ _ _ hx2).1
    ·obtain ⟨i,hi1,rfl⟩:=getElem_of_mem hy
     obtain ⟨x,hx1,hx2⟩:=hat i (by omega)
     rw [getElem?_eq_getElem hi1] at hx1
     cases hx1
     exact (ih _ _ h1 _ _ _ hx2).2
   ·cases h2
  ·cases h
end
structure Arg {τ:Type} (W:World) (m:Nat) (enc:τ->List Value) (s:Sl) (xs:List τ):Prop where
 len:s.len = xs.length
 cap:s.len <= s.cap
 row:s.cap = 0\/∃ b pre rest U fr,s.a = some (b,pre.length)/\s.cap * m <= s.len * m + rest.length/\s.g = some (pre,rest,U,fr)/\nf fr pre.length (s.cap * m)/\b ≠ 0/\W.heap[b]? = some (.cells (pre++(xs.flatMap enc++rest)).toArray U fr)
section
variable {H:Type} {enc:TypeId × Value->H} {P:Program} {W:World}
theorem has_spot {r:Reach} {b0:Nat} {t e:TypeId} {a:Addr} {len cap:Nat} (ht:P.underlying t = some (.slice e)) (h:Value.okWide P W r b0 t (.slice (some a) len cap)):a.spot = none/\∃ c T fr,W.heap[a.block]? = some (.cells c T fr):=by
 unfold Value.okWide at h
 rw [ht] at h
 unfold Cell.okWide at h
 rw [ht] at h
 simp only at h
 unfold Cell.ok at h
 rw [ht] at h
 simp only at h
 obtain ⟨_,_,_,hs,row,cells,h1,_⟩:=h
 refine ⟨hs,?_⟩
 unfold World.shape? at h1
 split at h1
 ·rename_i c T fr hq
  exact ⟨_,_,_,hq⟩
 ·cases h1
theorem open_arg {τ:Type} {b0 m:Nat} {t e:TypeId} {ks:List FK} {enc':τ->List Value} {v:Value} {d:DataW H} {ps:List MemPlace} {ET:Nat} {EF:Nat × Nat} {X:Value} (ht:P.underlying t = some (.slice e)) (hm:P.cellsOf e = m) (hk:flatK P 9 e = some ks) (hpos:0 < m)
  (dec:∀ cs,rT ks cs->∃ x:τ,enc' x = cs) (hval:Value.okWide P W .any b0 t v) (hd:DataW.Trod enc P W 0 (fun _=>true) true t v d ps) (hz:W.noneFrozen ps)
  (hw:W.heap[0]? = some (.cells #[X] ET EF)) (hX:∀ k,¬ FK.ok k X):∃ (s:Sl) (xs:List τ),v = sv s/\Arg W m enc' s xs:=by
 obtain ⟨a0,len0,mw,rfl⟩:=okWide_slice ht hval
 obtain ⟨fuel,hf⟩:=hd
 rcases Go.Deep.open_slice ht hf with ⟨h1,_⟩ | ⟨a,len,cap,mm,n,D,Pl,h1,_,hl,_,hmm,hx,hi⟩
 ·simp only [Value.cells,List.cons.injEq,Value.slice.injEq,and_true] at h1
  obtain ⟨rfl,rfl,rfl⟩:=h1
  exact ⟨⟨none,0,0,none⟩,[],rfl,rfl,Nat.le_refl _,.inl rfl⟩
 ·simp only [Value.cells,List.cons.injEq,Value.slice.injEq,and_true] at h1
  obtain ⟨rfl,rfl,rfl⟩:=h1
  simp only [if_true] at hmm
  subst hmm
  obtain ⟨hs,c,T,fr,hb⟩:=has_spot ht hval
  obtain ⟨b,off,spot⟩:=a
  simp only at hs hb
  subst hs
  by_cases hc0:mm = 0
  ·subst hc0
   obtain rfl:len0 = 0:=by omega
   exact ⟨⟨some (b,off),0,0,none⟩,[],rfl,rfl,Nat.le_refl _,.inl rfl⟩
  rw [hm] at hi hx
  have lM:∀ i,i < mm->∃ x:τ,(enc' x).length = m/\rT ks (enc' x)/\∀ j,j < m->c.toList[off + i * m + j]? = (enc' x)[j]?:=by
   intro i him
   obtain ⟨cs',h2,h3⟩:=hi i him
   obtain ⟨_,hlen,hget⟩:=World.cells?_some h2
   have hfit:=(trod_flat 9 e ks hk _ _ _ h3).1
   obtain ⟨x,rfl⟩:=dec cs' hfit
   refine ⟨x,hlen,hfit,fun j hj=>?_⟩
   have:=hget j hj
   rw [WideShapes.add_plain,WideShapes.add_plain] at this
   rw [← this]
   unfold World.cell?
   rw [hb]
   simp
  have hsize:off + mm * m <= c.toList.length:=by
   obtain ⟨x,hxl,_,hj⟩:=lM (mm - 1) (by omega)
   have h4:=hj (m - 1) (by omega)
   have h5:=(List.getElem?_eq_some_iff.1 (h4.trans (getElem?_eq_getElem (by omega)))).1
   have:mm * m = (mm - 1) * m + m:=by rw [← succ_mul]; congr 1; omega
   omega
  have hflat:∀ k,k <= mm->∃ ys:List τ,ys.length = k/\(c.toList.drop off).take (k * m) = ys.flatMap enc':=by
   intro k
   induction k with
   | zero=>exact fun _=>⟨[],rfl,by simp⟩
   | succ k ih =>
    intro hk1
    obtain ⟨ys,hy1,hy2⟩:=ih (by omega)
    obtain ⟨x,hxl,_,hj⟩:=lM k (by omega)
    refine ⟨ys++[x],by simp [hy1],?_⟩
    rw [succ_mul,List.take_add,hy2,List.flatMap_append]
    congr 1
    simp only [List.flatMap_cons,List.flatMap_nil,List.append_nil]
    apply List.ext_getElem?
    intro j
    rw [drop_drop,List.getElem?_take,List.getElem?_drop]
    by_cases hjm:j < m
    ·rw [if_pos hjm,← hj j hjm]
    ·rw [if_neg hjm,List.getElem?_eq_none (by omega)]
  obtain ⟨xs,hx1,hx2⟩:=hflat len0 hl
  have hlm:len0 * m <= mm * m:=Nat.mul_le_mul_right m hl
  refine ⟨⟨some (b,off),len0,mm,some (c.toList.take off,c.toList.drop (off + len0 * m),T,fr)⟩,xs,rfl,hx1.symm,hl,.inr ⟨b,c.toList.take off,c.toList.drop (off + len0 * m),T,fr,?_,?_,rfl,?_,?_,?_⟩⟩
  ·rw [length_take,Nat.min_eq_left (by omega)]
  ·show mm * m <= len0 * m + _
   rw [List.length_drop]; omega
  ·rw [length_take,Nat.min_eq_left (by omega)]
   intro j j1 j2
   have j2':j < off + mm * m:=j2
   have hp:MemPlace.cell b j ∈ ps:=by
    have hps:=congrArg Prod.snd hx
    simp only at hps
    rw [hps]
    refine List.mem_append_left _ (List.mem_map.2 ⟨j - off,List.mem_range.2 (by omega),?_⟩)
    show MemPlace.cell b (off + (j - off)) = _
    congr 1; omega
   have:=hz b j hp
   unfold World.frozen? at this
   simp only [hb] at this
   exact this
  ·rintro rfl
   rw [hw] at hb
   cases hb
   obtain ⟨x,hxl,hfit,hj⟩:=lM 0 (by omega)
   have h4:=hj 0 hpos
   simp only [Nat.zero_mul,Nat.add_zero] at h4
   cases hks:ks with
   | nil=>subst hks; have:=hfit.len; simp at this; simp [this] at hxl; omega
   | cons k ks' =>
    subst hks
    cases hex:enc' x with
    | nil=>rw [hex] at hxl; simp at hxl; omega
    | cons y ys =>
     rw [hex] at hfit h4
     simp only [List.getElem?_cons_zero] at h4
     have h5:y = X:=by
      cases off with
      | zero=>simpa using h4.symm
      | succ o=>simp at h4
     exact hX k (h5 ▸ hfit.1)
  ·rw [hb]
   congr 2
   apply ext'
   show c.toList = c.toList.take off++(xs.flatMap enc'++c.toList.drop (off + len0 * m))
   rw [← hx2,← drop_drop,take_append_drop,take_append_drop]
theorem open_struct {b0:Nat} {t:TypeId} {fs:Array Field} {ks:List FK} {v:Value} {d:DataW H} {ps:List MemPlace} (ht:P.underlying t = some (.struct fs)) (hk:flatK P 9 t = some ks) (hval:Value.okWide P W .any b0 t v) (hd:DataW.Trod enc P W 0 (fun _=>true) true t v d ps):∃ cs:List Value,v = .agg cs.toArray/\rT ks cs:=by
 obtain ⟨cs,rfl,_⟩:=okWide_struct ht hval
 obtain ⟨fuel,hf⟩:=hd
 exact ⟨cs.toList,by simp,(trod_flat 9 t ks hk _ _ _ hf).1⟩
theorem trodAll_stays (hl:laidOutB P = true) {W':World} {sp':Nat->Bool}:∀ {ts:List TypeId} {vs:List Value} {ds:List (DataW H)} {ps:List MemPlace},(∀ t ∈ ts,P.readableRec t = true/\t < P.types.size) ->
  DataW.TrodAll enc P W 0 (fun _=>true) true ts vs ds ps->(∀ p ∈ ps,W.sameAt W' p)->(∀ p ∈ ps,sp' p.block = true)->DataW.TrodAll enc P W' 0 sp' true ts vs ds ps
 | [],_,_,_,_,h,_,_=>by
  obtain ⟨rfl,rfl,rfl⟩:=trodAll_nil h
  rfl
 | t::ts,_,_,_,hr,h,hs,hp=>by
  obtain ⟨v,vs,d,ds,a,b,rfl,rfl,rfl,h1,h2⟩:=trodAll_cons h
  exact ⟨a,b,Go.WideElems.Trod_stays hl (hr t (by simp)).1 (hr t (by simp)).2 h1 (fun p q=>hs p (by simp [q])) (fun p q=>hp p (by simp [q])),trodAll_stays hl (fun t q=>hr t (by simp [q])) h2 (fun p q=>hs p (by simp [q])) (fun p q=>hp p (by simp [q])),rfl⟩
end
end
section
open Go Mb Go.ChangeShapes Go.WideShapes Go.RowKit
theorem no_iface (k:FK):¬ FK.ok k (rtV gH):=by
 cases k with
 | i k=>rintro ⟨n,h,_⟩; cases h
 | b=>rintro ⟨x,h⟩; cases h
theorem fit_cons {k:FK} {ks:List FK} {cs:List Value} (h:rT (k::ks) cs):∃ v vs,cs = v::vs/\k.ok v/\rT ks vs:=by
 cases cs with
 | nil=>exact h.elim
 | cons v vs=>exact ⟨v,vs,rfl,h.1,h.2⟩
theorem xk {k:IntKind} {ks:List FK} {cs:List Value} (h:rT (.i k::ks) cs):∃ (n:Int) (vs:List Value),cs = .int k n::vs/\(Lit.int k n).wf = true/\rT ks vs:=by
 obtain ⟨v,vs,rfl,⟨n,rfl,hw⟩,hf⟩:=fit_cons h
 exact ⟨n,vs,rfl,hw,hf⟩
theorem fit_nil {cs:List Value} (h:rT [] cs):cs = []:=by
 cases cs with
 | nil=>rfl
 | cons v vs=>exact h.elim
theorem wf_u {n:Int} (h:(Lit.int .u64 n).wf = true):0 <= n/\n < 2 ^ 64:=by
 have:=(Lit.wf_int_iff .u64 n).1 h
 simp [IntKind.has,IntKind.min,IntKind.max,IntKind.signed,IntKind.bits] at this
 omega
theorem Arg.sub {τ:Type} {P:τ->Prop} {W:World} {m:Nat} {C:τ->List Value} {s:Sl} {xs:List {x:τ // P x}} (A:Arg W m (fun x=>C x.1) s xs):Arg W m C s (xs.map (·.1))/\∀ x ∈ xs.map (·.1),P x:=by
 refine ⟨⟨by simpa using A.len,A.cap,?_⟩,fun x hx=>?_⟩
 ·have e:(xs.map (·.1)).flatMap C = xs.flatMap (fun x=>C x.1):=by rw [List.flatMap_map]
  rw [e]; exact A.row
 ·obtain ⟨y,_,rfl⟩:=List.mem_map.1 hx
  exact y.2
structure Same (W W':World):Prop where
 os:W'.os = W.os
 out:W'.output = W.output
 heap:∀ i,i < W.heap.size->W'.heap[i]? = W.heap[i]?
theorem Same.cell {W W':World} (s:Same W W') {p:MemPlace} (h:p.block < W.heap.size):W.sameAt W' p:=by
 cases p with
 | cell b off =>
  show W'.cell? _ = W.cell? _
  unfold World.cell?
  rw [s.heap b h]
 | map b=>exact s.heap b h
theorem run_spV {τ:Type} {T m:Nat} {enc:τ->List Value} {s:Sl} {xs:List τ} {f:FuncId} {vs:List Value} {ET:Nat} {EF:Nat × Nat} {W:World} (A:Arg W m enc s xs)
  (c:Sp prog f vs aC [etB ET EF,vec T m enc s xs] (fun r=>pa_ (r = true) [etB ET EF,vec T m enc s xs])) (hw:W.heap[0]? = some (.cells #[rtV gH] ET EF)) :
  Calls prog f vs.toArray W fun e W'=>e = .returned (.bool true)/\Same W W':=by
 have key:∀ (g:Hp),g 0 = none->(∀ b o,g b = some o->W.heap[b]? = some o)->vec T m enc s xs g->(∀ g',vec T m enc s xs g'->∀ b o,g b = some o->g' b = some o) ->
   Calls prog f vs.toArray W fun e W'=>e = .returned (.bool true)/\Same W W':=by
  intro g g0 gW gv gk
  have hs:Sub (un (eG emp 0 (.cells #[rtV gH] ET EF)) g) W:=by
   intro b o ho
   by_cases hb:b = 0
   ·subst hb; rw [un_left (jg _ _ _)] at ho; rw [hw]; exact ho
   ·rw [un_right (qY _ _ _ hb)] at ho; exact gW b o ho
  have hd:Dj (eG emp 0 (.cells #[rtV gH] ET EF)) g:=fun b=>by
   by_cases hb:b = 0
   ·subst hb; exact .inr g0
   ·exact .inl (qY _ _ _ hb)
  have hst:aB [etB ET EF,vec T m enc s xs] (un (eG emp 0 (.cells #[rtV gH] ET EF)) g):=⟨_,_,hd,rfl,jg _ _ _,xC gv⟩
  refine (c _ hst W hs).mono ?_
  rintro e W' ⟨v,h',rfl,⟨r,rfl,q⟩,s',fr⟩
  obtain ⟨rfl,q⟩:=q
  obtain ⟨g1,a1,sub1⟩:=dV (i:=0) (A:=etB ET EF) rfl q
  obtain ⟨g2,a2,sub2⟩:=dV (i:=1) (A:=vec T m enc s xs) rfl q
  refine ⟨rfl,fr.os,fr.out,fun i hi=>?_⟩
  rcases Nat.eq_zero_or_pos i with rfl | hp
  ·rw [s' _ _ (sub1 _ _ a1),hw]
  ·cases hg:g i with
   | none=>exact fr.same i hi (uM.2 ⟨qY _ _ _ (by omega),hg⟩)
   | some o=>rw [s' _ _ (sub2 _ _ (gk g2 a2 i o hg)),gW i o hg]
 rcases A.row with h0 | ⟨b,pre,rest,U,fr,h1,h2,h3,h4,h5,h6⟩
 ·exact key emp rfl (fun b o h=>by cases h) ⟨A.len,A.cap,.inl h0⟩ (fun _ _ b o h=>by cases h)
 ·by_cases h0:s.cap = 0
  ·exact key emp rfl (fun b o h=>by cases h) ⟨A.len,A.cap,.inl h0⟩ (fun _ _ b o h=>by cases h)
  ·refine key (eG emp b (.cells (pre++(xs.flatMap enc++rest)).toArray U fr)) (qY _ _ _ (Ne.symm h5)) ?_ ⟨A.len,A.cap,.inr ⟨b,pre,rest,U,fr,h1,h2,?_,jg _ _ _⟩⟩ ?_
   ·intro b' o ho
    unfold eG at ho
    split at ho
    ·rename_i hb; subst hb; rw [h6]; exact ho
    ·cases ho
   ·unfold gh; rw [h3]; exact ⟨rfl,h4⟩
   ·rintro g' ⟨_,_,r⟩ b' o ho
    rcases r with r | ⟨c',pre',rest',U',fr',r1,_,r3,r4⟩
    ·exact absurd r h0
    ·rw [h1] at r1
     unfold gh at r3
     rw [h3] at r3
     obtain ⟨r5,_⟩:=r3
     simp only [Prod.mk.injEq] at r5
     obtain ⟨rfl,rfl,rfl,rfl⟩:=r5
     simp only [Option.some.injEq,Prod.mk.injEq] at r1
     obtain ⟨rfl,_⟩:=r1
     unfold eG at ho
     split at ho
     ·rename_i hb; subst hb; cases ho; exact r4
     ·cases ho
theorem same_post {H:Type} {enc:TypeId × Value->H} {W W':World} {ts:List TypeId} {vs:List Value} {ds:List (DataW H)} {ps:List MemPlace} {sp:Nat->Bool} (hl:laidOutB prog = true) (hr:(ts.all fun t=>prog.readableRec t && decide (t < prog.types.size)) = true)
  (h:DataW.TrodAll enc prog W 0 (fun _=>true) true ts vs ds ps) (hlt:∀ p ∈ ps,p.block < W.heap.size) (s:Same W W') (hs:∀ p ∈ ps,sp p.block = true):DataW.TrodAll enc prog W' 0 sp true ts vs ds ps :=
 trodAll_stays hl (fun t ht=>by
  have:=List.all_eq_true.1 hr t ht
  simp only [and_eq_true,decide_eq_true_eq] at this
  exact this) h (fun p hp=>s.cell (hlt p hp)) hs
theorem want_all {ts:List TypeId} (h:(ts.all fun t=>!(prog.wantsStandIn t)) = true) {j:Nat} {t:TypeId} (ht:ts.toArray[j]? = some t):prog.wantsStandIn t = false:=by
 have:=List.all_eq_true.1 h t (List.mem_of_getElem? (by simpa using ht))
 simpa using this
end
section
open Go Mb
theorem mod_in (x:Int) {n:Int} (h:1 <= n/\n <= 100):0 <= (i64.wrap (x.tmod n + n)).tmod n/\(i64.wrap (x.tmod n + n)).tmod n < n:=by
 have h1:=Int.tmod_lt_of_pos x (show (0:Int) < n by omega)
 have h2:-n < x.tmod n:=by
  have:=Int.tmod_lt_of_pos (-x) (show (0:Int) < n by omega)
  rw [Int.neg_tmod] at this
  omega
 rw [bm (by omega) (by omega)]
 exact ⟨Int.tmod_nonneg _ (by omega),Int.tmod_lt_of_pos _ (by omega)⟩
end
section
open Go Mb
def KK.pick (k:KK) (p:rS):Bool × KK:=if p.fEb = 1 then KK.begin_ k p.fOa p.fCa p.fIa else if p.fEb = 2 then KK.step k p.fOa else if p.fEb = 3 then KK.post k p.fOa else if p.fEb = 4 then KK.evict k p.fOa p.fSet p.fWay else (false,k)
theorem sp_Do (x:Ptr) (k:KK) (p:rS) (hn:k.now < 2 ^ 36):Sp prog oq [pv x,.agg p.C.toArray] aC [dl x k] (fun r=>pa_ (r = (KK.pick k p).1) [dl x (KK.pick k p).2]):=by
 intro h st
 refine sim_messuagelaw16_Do _ _ ?_
 unfold sE
 refine aY (fun c=>?_) (fun c=>?_)
 ·have c':p.fEb = 1:=by simpa using c
  have e:KK.pick k p = KK.begin_ k p.fOa p.fCa p.fIa:=by unfold KK.pick; rw [if_pos c']
  rw [e]
  exact bS (i:=0) (sp_kern_Begin x k p.fOa p.fCa p.fIa (by omega)) rfl st fun r h1 hr s1=>aZ hr s1
 ·have c1:p.fEb ≠ 1:=by simpa using c
  refine aY (fun c=>?_) (fun c=>?_)
  ·have c':p.fEb = 2:=by simpa using c
   have e:KK.pick k p = KK.step k p.fOa:=by unfold KK.pick; rw [if_neg c1,if_pos c']
   rw [e]
   exact bS (i:=0) (sp_kern_Step x k p.fOa (by omega)) rfl st fun r h1 hr s1=>aZ hr s1
  ·have c2:p.fEb ≠ 2:=by simpa using c
   refine aY (fun c=>?_) (fun c=>?_)
   ·have c':p.fEb = 3:=by simpa using c
    have e:KK.pick k p = KK.post k p.fOa:=by unfold KK.pick; rw [if_neg c1,if_neg c2,if_pos c']
    rw [e]
    exact bS (i:=0) (sp_kern_Post x k p.fOa (by omega)) rfl st fun r h1 hr s1=>aZ hr s1
   ·have c3:p.fEb ≠ 3:=by simpa using c
    refine aY (fun c=>?_) (fun c=>?_)
    ·have c':p.fEb = 4:=by simpa using c
     have e:KK.pick k p = KK.evict k p.fOa p.fSet p.fWay:=by unfold KK.pick; rw [if_neg c1,if_neg c2,if_neg c3,if_pos c']
     rw [e]
     exact bS (i:=0) (sp_kern_Evict x k p.fOa p.fSet p.fWay (by omega)) rfl st fun r h1 hr s1=>aZ hr s1
    ·have c4:p.fEb ≠ 4:=by simpa using c
     have e:KK.pick k p = (false,k):=by unfold KK.pick; rw [if_neg c1,if_neg c2,if_neg c3,if_neg c4]
     rw [e]
     exact aZ rfl st
theorem IE.pick {k:KK} (A:IE k) (hn:k.now < 2 ^ 40) {p:rS} (cw:Cw p.fIa):IE (KK.pick k p).2:=by
 unfold KK.pick
 split
 ·exact A.begin hn _ _ cw
 ·split
  ·exact A.step hn _
  ·split
   ·exact A.post hn _
   ·split
    ·exact A.evict hn _ _ _
    ·exact A
structure Picked (p:rS) (k k':KK):Prop where
 len:k'.calls.length = k.calls.length
 s:k'.p.s = k.p.s
 lo:k.now <= k'.now
 now:k'.now <= k.now + 1
 calls:∀ (d:Nat) y,k'.calls[d]? = some (some y)->(∃ x,k.calls[d]? = some (some x)/\(x.fc.e0 ≠ 9->y.fc = x.fc))\/(y.fc = p.fIa/\p.fEb = 1)
theorem step_s {k:KK} (c:Int):(KK.step k c).2.p.s = k.p.s:=by
 unfold KK.step
 split
 ·rfl
 ·split
  ·rfl
  ·rename_i x _
   unfold KK.work
   split
   ·exact (vS (KK.tick k) c x).2.2.1
   ·split
    ·rfl
    ·split
     ·rfl
     ·split
      ·exact do_s _ _ _
      ·exact do_s _ _ _
theorem pick_picked {k:KK} (A:IE k) (hn:k.now < 2 ^ 38) (p:rS):Picked p k (KK.pick k p).2:=by
 have ht:(KK.tick k).now = k.now + 1:=tick_now A.inv.ok (by omega)
 have hw:i64.wrap (k.now + 1) = k.now + 1:=ht
 have same:∀ (d:Nat) y,k.calls[d]? = some (some y)->(∃ x,k.calls[d]? = some (some x)/\(x.fc.e0 ≠ 9->y.fc = x.fc))\/(y.fc = p.fIa/\p.fEb = 1):=fun d y h=>.inl ⟨y,h,fun _=>rfl⟩
 unfold KK.pick
 split
 ·rename_i hk
  unfold KK.begin_
  split
  ·exact ⟨rfl,rfl,le_refl _,by show k.now <= k.now + 1; omega,same⟩
  ·refine ⟨by simp,rfl,by show k.now <= i64.wrap (k.now + 1); omega,by show i64.wrap (k.now + 1) <= _; omega,fun d y h=>?_⟩
   have h':(k.calls.set p.fOa.toNat (some ⟨k.events.length,p.fCa,p.fIa,false,0⟩))[d]? = some (some y):=h
   rw [List.getElem?_set] at h'
   split at h'
   ·split at h'
    ·simp only [Option.some.injEq] at h'
     rw [← h']; exact .inr ⟨rfl,hk⟩
    ·cases h'
   ·exact same d y h'
 ·split
  ·by_cases hb:KK.busy k p.fOa = true
   ·obtain ⟨hi,x,hx⟩:=busy_is hb
    obtain ⟨n,e,hlt⟩:=lN hi
    rw [e] at hx ⊢
    have hcx:=qW hx
    obtain ⟨S,s1,_⟩:=step_stepped A.inv hlt hcx
    have hnn:=KK.step_now A.inv.ok.n0 hn (n:Int)
    refine ⟨S.len,step_s _,hnn.1,hnn.2,fun d y h=>?_⟩
    by_cases ed:d = n
    ·subst ed
     refine .inl ⟨x,hcx,fun h9=>?_⟩
     rcases s1 h9 with g | ⟨z,g1,_,g3⟩
     ·rw [g] at h; cases h
     ·rw [g1] at h; cases h; exact g3
    ·rw [S.other d ed] at h; exact same d y h
   ·have e:KK.step k p.fOa = (false,k):=by unfold KK.step; rw [if_pos (by simpa using hb)]
    rw [e]
    exact ⟨rfl,rfl,le_refl _,by show k.now <= k.now + 1; omega,same⟩
  ·split
   ·have hnn:=KK.post_now A.inv.ok.n0 hn p.fOa
    have e:(KK.post k p.fOa).2.calls = k.calls/\(KK.post k p.fOa).2.p.s = k.p.s:=by
     unfold KK.post
     split
     ·exact ⟨rfl,rfl⟩
     ·split <;> exact ⟨rfl,rfl⟩
    exact ⟨by rw [e.1],e.2,hnn.1,hnn.2,by rw [e.1]; exact same⟩
   ·split
    ·unfold KK.evict
     split
     ·exact ⟨rfl,rfl,le_refl _,by show k.now <= k.now + 1; omega,same⟩
     ·split
      ·exact ⟨rfl,rfl,le_refl _,by show k.now <= k.now + 1; omega,same⟩
      ·exact ⟨rfl,rfl,by show k.now <= i64.wrap (k.now + 1); omega,by show i64.wrap (k.now + 1) <= _; omega,same⟩
    ·exact ⟨rfl,rfl,le_refl _,by show k.now <= k.now + 1; omega,same⟩
theorem size_in (z:fQ):PK.sized (cK z) = true/\1 <= (cK z).fSa/\(cK z).fSa <= 4/\1 <= (cK z).fJa/\(cK z).fJa <= 3:=by
 have h1:=mod_in z.fSa (n:=4) (by decide)
 have h2:=mod_in z.fJa (n:=3) (by decide)
 have h3:=mod_in z.fXa (n:=6) (by decide)
 rw [gb]
 unfold cK
 dsimp only
 generalize (i64.wrap (z.fSa.tmod 4 + 4)).tmod 4 = a at *
 generalize (i64.wrap (z.fJa.tmod 3 + 3)).tmod 3 = b at *
 generalize (i64.wrap (z.fXa.tmod 6 + 6)).tmod 6 = c at *
 rw [bm (n:=1 + a) (by omega) (by omega),bm (n:=1 + b) (by omega) (by omega),bm (n:=1 + c) (by omega) (by omega)]
 omega
theorem cw_of {p:rS} (h:rT [.i .i64,.i .i64,.i .i64,.i .u64,.i .u64,.i .u64,.i .u64,.i .u64,.i .i64,.i .i64] (cx.C p)):Cw p.fIa:=by
 obtain ⟨_,_,_,⟨n0,e0,w0⟩,⟨n1,e1,w1⟩,⟨n2,e2,w2⟩,⟨n3,e3,w3⟩,⟨n4,e4,w4⟩,_⟩:=h
 injection e0 with _ e0
 injection e1 with _ e1
 injection e2 with _ e2
 injection e3 with _ e3
 injection e4 with _ e4
 exact ⟨by rw [e0]; exact (wf_u w0).1,by rw [e1]; exact (wf_u w1).1,by rw [e2]; exact (wf_u w2).1,by rw [e3]; exact (wf_u w3).1,by rw [e4]; exact (wf_u w4).1⟩
end
section
open Go
namespace Mb
section
variable {τ:Type}
def entsK (kd:IntKind) (val:τ->Value) (es:List MapEntry) (m:List (Int × τ)):Prop:=es.map (fun e=>(e.key,e.val)) = m.map (fun p=>(Value.int kd p.1,val p.2))
def mapL (kd:IntKind) (b:Nat) (val:τ->Value) (m:List (Int × τ)):As:=fun h=>∃ (es:List MapEntry) (clock:Nat),h b = some (.map es.toArray clock)/\entsK kd val es m
theorem find_nowK {val:τ->Value} {kd k:IntKind} (x:Int):∀ {es:List MapEntry} {m:List (Int × τ)} (i:Nat),entsK k val es m->Instr.findNow (.int kd) (.int k x) es i = some ((fi x m i).map fun r=>(r.1,val r.2))
 | [],[],_,_=>rfl
 | [],_::_,_,h=>by simp [entsK] at h
 | _::_,[],_,h=>by simp [entsK] at h
 | e::es,p::m,i,h=>by
  simp only [entsK,map_cons,List.cons.injEq,Prod.mk.injEq] at h
  obtain ⟨⟨h1,h2⟩,h3⟩:=h
  unfold Instr.findNow fi
  rw [h1,h2]
  by_cases hx:x = p.1
  ·subst hx; simp [Instr.sameNow]
  ·have:(x == p.1) = false:=by simpa using hx
   simp only [Instr.sameNow,this,if_true,if_neg hx]
   exact find_nowK x (i + 1) h3
theorem fi_none {x:Int}:∀ {m:List (Int × τ)} {i:Nat},x ∉ m.map (·.1)->fi x m i = none
 | [],_,_=>rfl
 | p::m,i,h=>by
  unfold fi
  rw [if_neg (fun e=>h (by simp [e]))]
  exact fi_none (fun hm=>h (by simp only [map_cons,List.mem_cons]; exact .inr hm))
end
section
variable {P:Program} {l:List As} {h:Hp} {τ:Type} {S K E:TypeId} {z:Value} {val:τ->Value} {kd:IntKind}
theorem hp_findKeyK {kd k:IntKind} {x:Int} {es:List MapEntry} {m:List (Int × τ)} {Q:Option (Nat × Value)->Hp->Prop} (e:P.underlying K = some (.int kd)) (he:entsK k val es m) (q:Q ((fi x m 0).map fun r=>(r.1,val r.2)) h):hp P (Instr.findKey K (.int k x) es) Q h:=by
 unfold Instr.findKey
 refine cf (cU e ?_)
 rw [find_nowK x 0 he]
 exact q
theorem makeMap_L {R:Option Nat->Value} {Q:Option Nat->Hp->Prop} (kd:IntKind) (hR:R = fun r=>.map r) (st:aB l h) (k:∀ b h',aB (mapL kd b val []::l) h'->Q (some b) h'):hpv P (Instr.makeMap S none) R Q h:=by
 subst hR
 refine ⟨?_⟩
 unfold Instr.makeMap
 refine cf ?_
 refine ⟨rfl,fun b hb=>⟨some b,rfl,k b _ ?_⟩⟩
 obtain ⟨h1,h2,d,e,a,s⟩:=new_s (o:=.map #[] 0) st hb
 exact ⟨h1,h2,d,e,⟨[],0,a,rfl⟩,s⟩
theorem lookup_L {σ:Type} {j b:Nat} {m:List (Int × τ)} {x:Int} {ok:Bool} {R:σ->Value} {Q:σ->Hp->Prop} (M:Mp P S K E z) (st:aB l h) (hj:l[j]? = some (mapL kd b val m)) (r:σ) (hr:(if ok then .tuple #[(((fi x m 0).map (·.2)).map val).getD z,.bool (fi x m 0).isSome] else (((fi x m 0).map (·.2)).map val).getD z) = R r) (q:Q r h):hpv P (Instr.lookup S (.map (some b)) (.int kd x) ok) R Q h:=by
 refine ⟨?_⟩
 obtain ⟨h1,⟨es,clock,a,he⟩,sub⟩:=dV hj st
 obtain ⟨kd',hk⟩:=M.key
 obtain ⟨i,hi,hz⟩:=M.inf
 unfold Instr.lookup
 refine cf (cU M.mp ?_)
 refine cf (hp_getObj (sub _ _ a) rfl ?_)
 refine cf ?_
 rw [yv]
 refine cf (vJ hk ?_)
 refine cf (hp_findKeyK (val:=val) hk he ?_)
 cases hm:fi x m 0 with
 | none =>
  rw [hm] at hr
  refine cf (pU hi hz ?_)
  exact ⟨r,hr,q⟩
 | some p =>
  rw [hm] at hr
  refine cf ?_
  exact ⟨r,hr,q⟩
theorem update_L {j b:Nat} {m:List (Int × τ)} {x:Int} {w:τ} {v:Value} {Q:Hp->Prop} (M:Mp P S K E z) (st:aB l h) (hj:l[j]? = some (mapL kd b val m)) (hv:v = val w) (hx:x ∉ m.map (·.1)) (k:∀ h',aB (l.set j (mapL kd b val (m++[(x,w)]))) h'->Q h'):hpu P (Instr.mapUpdate S (.map (some b)) (.int kd x) v) Q h:=by
 subst hv
 refine ⟨?_⟩
 obtain ⟨h1,h2,d,rfl,⟨es,clock,a,he⟩,s'⟩:=fj hj st
 have hjl:=(List.getElem?_eq_some_iff.1 hj).1
 obtain ⟨kd',hk⟩:=M.key
 unfold Instr.mapUpdate
 refine cf (cU M.mp ?_)
 refine cf (hp_getObj (un_left a) rfl ?_)
 refine cf (vJ hk ?_)
 refine cf (hp_findKeyK (val:=val) hk he ?_)
 rw [fi_none hx]
 refine ⟨rfl,⟨_,un_left a,rfl⟩,?_⟩
 obtain ⟨d',e'⟩:=set_dj (o':=.map (es.toArray.push { key:=.int kd x,val:=val w,born:=clock }) (clock + 1)) d a
 rw [e']
 refine k _ (dP hjl ⟨_,h2,d',rfl,⟨(es.toArray.push { key:=.int kd x,val:=val w,born:=clock }).toList,clock + 1,?_,?_⟩,s'⟩)
 ·exact jg _ _ _
 ·unfold entsK at he ⊢
  simp [he]
end
end Mb
end
section
open Go Mb
variable {ET:Nat} {EF:Nat × Nat}
def iB:List Int->Int->List (Int × Int)
 | [],_=>[]
 | i::l,n=>(i,n)::iB l (n + 1)
theorem placed_app (x:Int):∀ (l:List Int) (n:Int),iB (l++[x]) n = iB l n++[(x,n + l.length)]
 | [],n=>by simp [iB]
 | i::l,n=>by
  rw [List.cons_append,iB,placed_app x l (n + 1),iB,List.cons_append,List.length_cons]
  rw [show n + 1 + (l.length:Int) = n + ((l.length + 1:Nat):Int) by omega]
theorem placed_fst:∀ (l:List Int) (n:Int),(iB l n).map (·.1) = l
 | [],_=>rfl
 | i::l,n=>by rw [iB,map_cons,placed_fst l (n + 1)]
theorem placed_fi {l:List Int} (hn:l.Nodup):∀ {i:Nat} {x:Int} {n:Int} {j:Nat},l[i]? = some x->∃ q,fi x (iB l n) j = some (q,n + i):=by
 induction l with
 | nil=>intro i x n j h; simp at h
 | cons a l ih =>
  intro i x n j h
  obtain ⟨h1,h2⟩:=List.nodup_cons.1 hn
  rw [iB,fi]
  cases i with
  | zero =>
   simp at h
   rw [if_pos h.symm]
   exact ⟨j,by simp⟩
  | succ i =>
   have hx:l[i]? = some x:=by simpa using h
   rw [if_neg (fun e=>h1 (by have e':x = a:=e; rw [← e']; exact List.mem_of_getElem? hx))]
   obtain ⟨q,hq⟩:=ih h2 (n:=n + 1) (j:=j + 1) hx
   exact ⟨q,by rw [hq,show n + 1 + (i:Int) = n + ((i + 1:Nat):Int) by omega]⟩
theorem All.real {k:KK} (A:All k) {i j:Nat} {d e:bu} (hi:k.events[i]? = some d) (hj:k.events[j]? = some e) (hb:d.fTa > 0/\d.fTa < e.fQa) :
  ∃ a:Nat,(Hist.order k.events)[a]? = some (i:Int)/\∀ b:Nat,(Hist.order k.events)[b]? = some (j:Int)->a < b:=by
 obtain ⟨log,L⟩:=A.lg
 rw [← L.order A.ev]
 have o1:=A.ev.one i d hi
 have o2:=A.ev.one j e hj
 have hd:d.fHa > 0/\d.fHa = d.fTa:=by
  rcases o1.st with s | s
  ·omega
  ·have:=o1.b0; omega
 have hmem:(i:Int) ∈ log:=(L.mem i).2 ⟨i,d,hi,rfl,hd.1⟩
 obtain ⟨a,ha⟩:=List.getElem?_of_mem hmem
 refine ⟨a,ha,fun b hb'=>?_⟩
 have hjm:=(L.mem j).1 (List.mem_of_getElem? hb')
 obtain ⟨m,e',g1,g2,g3⟩:=hjm
 have:m = j:=by omega
 subst this
 rw [hj] at g1; cases g1
 have he:e.fQa < e.fHa:=by
  rcases o2.st with s | s
  ·omega
  ·exact s.1
 have hlt:Hist.eff k.events i < Hist.eff k.events m:=by rw [Hist.eff_nat hi,Hist.eff_nat hj]; omega
 rcases Nat.lt_trichotomy a b with h | h | h
 ·exact h
 ·subst h
  rw [ha] at hb'
  have:i = m:=by have:=Option.some.inj hb'; omega
  subst this; omega
 ·have hal:=(List.getElem?_eq_some_iff.1 ha)
  have hbl:=(List.getElem?_eq_some_iff.1 hb')
  have:=List.pairwise_iff_getElem.1 L.up b a hbl.1 hal.1 h
  rw [hal.2,hbl.2] at this
  omega
theorem order_nd {k:KK} (A:All k):(Hist.order k.events).Nodup:=by
 obtain ⟨log,L⟩:=A.lg
 rw [← L.order A.ev]; exact L.nodup
end
section
open Go Mb
variable {ET:Nat} {EF:Nat × Nat}
theorem All.pick {k:KK} (A:All k) (hn:k.now < 2 ^ 40) {p:rS} (cw:Cw p.fIa):All (KK.pick k p).2:=by
 unfold KK.pick
 split
 ·exact A.begin hn _ _ cw
 ·split
  ·exact A.step hn _
  ·split
   ·exact A.post hn _
   ·split
    ·exact A.evict hn _ _ _
    ·exact A
structure BehindA (z:fQ) (n:Nat) (k:KK):Prop extends All k where
 s:k.p.s = z
 now:k.now <= n
theorem BehindA.pick {z:fQ} {n:Nat} {k:KK} (B:BehindA z n k) (hn:n < 1000) {p:rS} (cw:Cw p.fIa):BehindA z (n + 1) (KK.pick k p).2:=by
 have hk:k.now < 2 ^ 38:=by have:=B.now; omega
 have P:=pick_picked B.toIE hk p
 exact ⟨B.toAll.pick (by omega) cw,P.s.trans B.s,by have:=P.now; have:=B.now; omega⟩
theorem behinda_new {z:fQ} (h:PK.sized z = true):BehindA z 0 (KK.new z):=⟨all_new h,rfl,le_refl _⟩
theorem placed_of {x v:Int} {q:Nat}:∀ {l:List Int} {n:Int} {j:Nat},fi x (iB l n) j = some (q,v)->∃ b:Nat,l[b]? = some x/\v = n + b
 | [],_,_,h=>by cases h
 | a::l,n,j,h=>by
  rw [iB,fi] at h
  by_cases e:x = a
  ·rw [if_pos e] at h
   have h2:(j,n) = (q,v):=Option.some.inj h
   cases h2
   exact ⟨0,by rw [e]; rfl,by simp⟩
  ·rw [if_neg e] at h
   obtain ⟨b,h1,h2⟩:=placed_of h
   exact ⟨b + 1,by simpa using h1,by rw [h2]; omega⟩
def look (pl:List (Int × Int)) (x:Int):Int × Bool:=(((fi x pl 0).map (·.2)).getD 0,(fi x pl 0).isSome)
theorem look_r (pl:List (Int × Int)) (x:Int):(if true = true then Value.tuple #[(((fi x pl 0).map (·.2)).map (fun x:Int=>Value.int .i64 x)).getD (.int .i64 0),.bool (fi x pl 0).isSome] else (((fi x pl 0).map (·.2)).map (fun x:Int=>Value.int .i64 x)).getD (.int .i64 0)) = bI (look pl x):=by
 rw [if_pos rfl]
 unfold look bI
 cases fi x pl 0 <;> rfl
theorem sp_HistReal (z:fQ) (s:Sl) (ps:List rS) (hf:∀ p ∈ ps,Cw p.fIa):Sp prog nK [.agg z.C.toArray,sv s] aC [etB ET EF,vK s ps] (fun r=>pa_ (r = true) [etB ET EF,vK s ps]):=by
 intro h st
 refine tJ _ _ ?_
 unfold nc
 refine bS (i:=0) sp_begun16 rfl st fun r h1 hr s1=>?_
 subst hr
 refine dO rfl ?_
 refine bS (i:=1) (sp_Cut s ps 200 (by decide) (by decide)) rfl s1 fun y h2 hback s2=>?_
 have e200:(200:Int).toNat = 200:=rfl
 rw [e200] at hback
 rw [e200] at s2
 have hlen:(ps.take 200).length <= 200:=by rw [length_take]; exact Nat.min_le_left _ _
 have hfq:∀ p ∈ ps.take 200,Cw p.fIa:=fun p hp=>hf p (List.mem_of_mem_take hp)
 generalize ps.take 200 = qs at hback s2 hlen hfq
 have s2:aB [etB ET EF,vK y qs] h2:=s2
 have hl:=(cc (j:=1) s2 rfl).1
 obtain ⟨hs,_,_,_,_⟩:=size_in z
 generalize hwz:cK z = w at hs ⊢
 refine mY (sp_kern_New w hs) s2 fun x h3 s3=>?_
 have fin:∀ {r:Bool} {h':Hp},r = true->aB [etB ET EF,vK y qs] h'->pa_ (r = true) [etB ET EF,vK s ps] h':=fun hr s'=>aZ hr (star_imp (i:=1) rfl hback s')
 refine Lp.intro (fun (i:Int) h=>∃ (n:Nat) (k:KK),i = n/\n <= qs.length/\BehindA w n k/\aB [dl x k,etB ET EF,vK y qs] h) (fun (i:Int) _=>qs.length - i.toNat) ⟨0,_,rfl,zero_le _,behinda_new hs,s3⟩ ?_
 rintro i h4 ⟨n,k,rfl,hn,B,s4⟩
 have hk:k.now < 2 ^ 30:=by have:=B.now; omega
 unfold jd
 refine aY (fun c=>?_) (fun c=>?_)
 ·have hlt:n < qs.length:=by rw [hl] at c; simpa using c
  have hw:i64.wrap ((n:Int) + 1) = ((n + 1:Nat):Int):=by rw [bm (by omega) (by omega)]; rfl
  refine cZ s4 (j:=2) rfl (by omega) (by omega) fun q hq=>?_
  refine dz (j:=2) (i:=n) (k:=0) qs[n] pick_len s4 rfl hq rfl (aE hlt) (by simp) ?_
  refine bS (i:=0) (sp_Do x k qs[n] (by omega)) rfl s4 fun r h5 hr s5=>?_
  rw [hw]
  exact ⟨⟨n + 1,_,rfl,hlt,B.pick (by omega) (hfq _ (List.getElem_mem hlt)),s5⟩,by simp; omega⟩
 ·refine xt (i:=0) (tF x k (by omega)) rfl s4 fun u h6 s6=>?_
  have hev:=B.inv.ok.evn
  have hreal:∀ {i j:Nat} {d e:bu},k.events[i]? = some d->k.events[j]? = some e->d.fTa > 0/\d.fTa < e.fQa->∃ a:Nat,(Hist.order k.events)[a]? = some (i:Int)/\∀ b:Nat,(Hist.order k.events)[b]? = some (j:Int)->a < b:=fun hi hj hb=>B.toAll.real hi hj hb
  have hnd:=order_nd B.toAll
  have hap:=B.ev.apart
  have hsm:k.events.length < 2 ^ 31:=by omega
  have s6:aB [vE u k.events,etB ET EF,vK y qs] h6:=bb [0] (cd (l:=[_]) (bb [1] s6 rfl)) rfl
  generalize k.events = es at hreal hnd hap hsm s6
  have hul:=(cc (j:=0) s6 rfl).1
  refine makeMap_L (val:=fun x:Int=>.int .i64 x) .i64 rfl s6 fun b h7 s7=>?_
  have s7:aB [mapL .i64 b (fun x:Int=>Value.int .i64 x) [],vE u es,etB ET EF,vK y qs] h7:=s7
  refine xt (i:=1) (ordN u (by omega) hap) rfl s7 fun r h8 s8=>?_
  have s8:aB [vI r (Hist.order es),mapL .i64 b (fun x:Int=>Value.int .i64 x) [],vE u es,etB ET EF,vK y qs] h8:=s8
  have hol:(Hist.order es).length < 2 ^ 40:=by
   have h1:(Hist.order es).length = (Hist.effs es).length:=(Hist.isort_perm _ _).length_eq
   have h2:(Hist.effs es).length <= es.length:=Hist.placesFrom_len _ _ _
   omega
  generalize Hist.order es = od at hreal hnd s8 hol
  have hrl:=(cc (j:=0) s8 rfl).1
  refine Lp.intro (fun (i:Int) h=>∃ t:Nat,i = t/\t <= od.length/\aB [vI r od,mapL .i64 b (fun x:Int=>Value.int .i64 x) (iB (od.take t) 0),vE u es,etB ET EF,vK y qs] h) (fun (i:Int) _=>od.length - i.toNat) ⟨0,rfl,zero_le _,s8⟩ ?_
  rintro i h9 ⟨t,rfl,ht,s9⟩
  unfold ja
  refine aY (fun d=>?_) (fun d=>?_)
  ·have hlt:t < od.length:=by rw [hrl] at d; simpa using d
   have hw:i64.wrap ((t:Int) + 1) = ((t + 1:Nat):Int):=by rw [bm (by omega) (by omega)]; rfl
   refine cZ s9 (j:=0) rfl (by omega) (by omega) fun q hq=>?_
   refine dz (j:=0) (i:=t) (k:=0) od[t] (ct _) s9 rfl hq rfl (aE hlt) (by simp) ?_
   have hno:od[t] ∉ (iB (od.take t) 0).map (·.1):=by
    rw [placed_fst]
    intro hm
    obtain ⟨j,hj,hje⟩:=getElem_of_mem hm
    rw [length_take] at hj
    rw [List.getElem_take] at hje
    exact (List.pairwise_iff_getElem.1 hnd j t (by omega) hlt (by omega)) hje
   refine update_L (j:=1) (w:=(t:Int)) mo s9 rfl rfl hno fun h10 s10=>?_
   rw [hw]
   refine ⟨⟨t + 1,rfl,hlt,?_⟩,by simp; omega⟩
   have htk:od.take (t + 1) = od.take t++[od[t]]:=by rw [List.take_append_getElem]
   have htl:((od.take t).length:Int) = t:=by rw [length_take]; omega
   rw [htk,placed_app,htl,Int.zero_add]
   exact s10
  ·have htn:t = od.length:=by rw [hrl] at d; simp at d; omega
   rw [htn,List.take_length] at s9
   have s9:aB [mapL .i64 b (fun x:Int=>Value.int .i64 x) (iB od 0),vE u es,etB ET EF,vK y qs] h9:=cd (l:=[_]) s9
   refine Lp.intro (fun (i:Int) h=>∃ t:Nat,i = t/\t <= es.length/\aB [mapL .i64 b (fun x:Int=>Value.int .i64 x) (iB od 0),vE u es,etB ET EF,vK y qs] h) (fun (i:Int) _=>es.length - i.toNat) ⟨0,rfl,zero_le _,s9⟩ ?_
   rintro i h10 ⟨a,rfl,ha,s10⟩
   unfold iZ
   refine aY (fun d2=>?_) (fun d2=>?_)
   ·have hla:a < es.length:=by rw [hul] at d2; simpa using d2
    have hwa:i64.wrap ((a:Int) + 1) = ((a + 1:Nat):Int):=by rw [bm (by omega) (by omega)]; rfl
    refine Lp.intro (fun (i:Int) h=>∃ t:Nat,i = t/\t <= es.length/\aB [mapL .i64 b (fun x:Int=>Value.int .i64 x) (iB od 0),vE u es,etB ET EF,vK y qs] h) (fun (i:Int) _=>es.length - i.toNat) ⟨0,rfl,zero_le _,s10⟩ ?_
    rintro i h11 ⟨c2,rfl,hc2,s11⟩
    unfold iY
    rw [hwa]
    refine aY (fun d3=>?_) (fun d3=>?_)
    ·have hlc:c2 < es.length:=by rw [hul] at d3; simpa using d3
     have hwc:i64.wrap ((c2:Int) + 1) = ((c2 + 1:Nat):Int):=by rw [bm (by omega) (by omega)]; rfl
     rw [hwc]
     refine lookup_L (j:=0) mo s11 rfl (look (iB od 0) a) (look_r _ _) ?_
     refine lookup_L (j:=0) mo s11 rfl (look (iB od 0) c2) (look_r _ _) ?_
     refine cZ s11 (j:=1) rfl (by omega) (by omega) fun q hq=>?_
     refine cZ s11 (j:=1) rfl (by omega) (by omega) fun q2 hq2=>?_
     refine dz (j:=1) (i:=a) (k:=0) es[a] kM s11 rfl hq rfl (aE hla) (by simp) ?_
     refine dz (j:=1) (i:=c2) (k:=0) es[c2] kM s11 rfl hq2 rfl (aE hlc) (by simp) ?_
     have next:(fun (s':Int) h'=>(∃ t:Nat,s' = t/\t <= es.length/\aB [mapL .i64 b (fun x:Int=>Value.int .i64 x) (iB od 0),vE u es,etB ET EF,vK y qs] h')/\es.length - s'.toNat < es.length - ((c2:Nat):Int).toNat) ((c2 + 1:Nat):Int) h11:=⟨⟨c2 + 1,rfl,hlc,s11⟩,by simp only [Int.toNat_natCast]; omega⟩
     refine aY (fun k1=>?_) (fun _=>next)
     have hb:es[a].fTa > 0/\es[a].fTa < es[c2].fQa:=by
      unfold pF at k1
      simpa using k1
     obtain ⟨pa,p1,p2⟩:=hreal (aE hla) (aE hlc) hb
     obtain ⟨q3,hq3⟩:=placed_fi hnd (n:=0) (j:=0) p1
     have e1:look (iB od 0) a = (0 + (pa:Int),true):=by unfold look; rw [hq3]; rfl
     rw [e1]
     refine dO rfl ?_
     refine aY (fun k2=>?_) (fun _=>next)
     cases hfc:fi (c2:Int) (iB od 0) 0 with
     | none =>
      unfold look at k2
      rw [hfc] at k2; cases k2
     | some v =>
      obtain ⟨v1,v2⟩:=v
      obtain ⟨b2,b3,b4⟩:=placed_of hfc
      have e2:look (iB od 0) c2 = (v2,true):=by unfold look; rw [hfc]; rfl
      rw [e2]
      have:=p2 b2 b3
      refine dO (by simp; omega) next
    ·exact ⟨⟨a + 1,rfl,hla,s11⟩,by simp; omega⟩
   ·exact fin rfl (cd (l:=[_,_]) s10)
end
section
open Go Mb Go.ChangeShapes Go.WideShapes Go.RowKit
theorem decHistReal25 (cs:List Value) (h:rT [.i .i64,.i .i64,.i .i64] cs):∃ x:{x:aF // rT [.i .i64,.i .i64,.i .i64] (aF.C x)},aF.C x.1 = cs:=by
 have h0:=h
 obtain ⟨a0,r0,rfl,_,h⟩:=xk h
 obtain ⟨a1,r1,rfl,_,h⟩:=xk h
 obtain ⟨a2,r2,rfl,_,h⟩:=xk h
 obtain rfl:=fit_nil h
 exact ⟨⟨⟨a0,a1,a2⟩,h0⟩,rfl⟩
theorem decHistReal51 (cs:List Value) (h:rT [.i .i64,.i .i64,.i .i64,.i .u64,.i .u64,.i .u64,.i .u64,.i .u64,.i .i64,.i .i64] cs):∃ x:{x:cx // rT [.i .i64,.i .i64,.i .i64,.i .u64,.i .u64,.i .u64,.i .u64,.i .u64,.i .i64,.i .i64] (cx.C x)},cx.C x.1 = cs:=by
 have h0:=h
 obtain ⟨a0,r0,rfl,_,h⟩:=xk h
 obtain ⟨a1,r1,rfl,_,h⟩:=xk h
 obtain ⟨a2,r2,rfl,_,h⟩:=xk h
 obtain ⟨a3,r3,rfl,_,h⟩:=xk h
 obtain ⟨a4,r4,rfl,_,h⟩:=xk h
 obtain ⟨a5,r5,rfl,_,h⟩:=xk h
 obtain ⟨a6,r6,rfl,_,h⟩:=xk h
 obtain ⟨a7,r7,rfl,_,h⟩:=xk h
 obtain ⟨a8,r8,rfl,_,h⟩:=xk h
 obtain ⟨a9,r9,rfl,_,h⟩:=xk h
 obtain rfl:=fit_nil h
 exact ⟨⟨⟨a0,a1,a2,⟨a3,a4,a5,a6,a7⟩,a8,a9⟩,h0⟩,rfl⟩
set_option maxRecDepth 100000 in
theorem lifted_12 (os:Os) (started:os.Started) (H:Type) (enc:TypeId × Value->H) :
  ReturnsInHanded {} Tryz.checked os 12 .any (fun w args=>(Rows.histRealSpec.pre enc prog Tryz.f12 [] false w args/\laidMetH prog laid w)/\sizedMet enc prog Tryz.f12 (OpenSpec.ofChange Rows.histRealSpec) false w args)
   (Rows.histRealSpec.post enc prog Tryz.f12 false true false false):=by
 refine returnsInHanded_of_change_and (C:=Tryz.checked) (X:=fun w _=>laidMetH prog laid w) (fun _ _ _ hh h=>h.of_heap hh) Tryz.own started (by kernel_rfl) func12
  (ChangeSpec.witness_at (enc:=enc) (C:=Tryz.checked) (os:=os) (X:=fun w _=>laidMetH prog laid w) false (laidWorld os) #[.agg #[.int .i64 0,.int .i64 0,.int .i64 0],.slice none 0 0] 8 rfl (by kernel_rfl) (by kernel_rfl) (by kernel_rfl) (by kernel_rfl) (by kernel_rfl) (laidWorld_met os _)) ?_
 intro W base args ds gs before hval0 hW _ _ hL _
 have hval:∀ (j:Nat) t v,Tryz.f12.params[j]? = some t->args[j]? = some v->Value.okWide prog W .any base t v:=hval0
 have hW':=hW
 obtain ⟨p,q,hA0,hV0,rfl,hfz,hnd⟩:=hW
 have hA:DataW.TrodAll enc prog W 0 (fun _=>true) true Tryz.f12.params.toList args.toList ds p:=hA0
 have hV:DataW.TrodVars enc prog W (fun _=>true) [] gs q:=hV0
 rw [Tryz.params12] at hA hval
 have hst:=hA
 obtain ⟨T,F,hb⟩:=block_of_laid hL
 obtain ⟨rfl,rfl⟩:gs = []/\q = []:=by
  cases gs with
  | nil=>exact ⟨rfl,hV⟩
  | cons g r=>exact absurd hV (by intro h; cases h)
 obtain ⟨v0,w0,d0,e0,p0,q0,hx0,rfl,rfl,h0,hA0⟩:=trodAll_cons hA
 obtain ⟨v1,w1,d1,e1,p1,q1,hx1,rfl,rfl,h1,hA1⟩:=trodAll_cons hA0
 obtain ⟨hy,rfl,rfl⟩:=trodAll_nil hA1
 subst hy
 subst hx1
 obtain rfl:args = #[v0,v1]:=by apply ext'; exact hx0
 obtain ⟨c0,rfl,hc0⟩:=open_struct (ks:=[.i .i64,.i .i64,.i .i64]) underlying25 (by kernel_rfl) (hval 0 25 v0 rfl rfl) h0
 obtain ⟨⟨z0,hf0⟩,rfl⟩:=decHistReal25 _ hc0
 obtain ⟨s1,ys1,rfl,A1⟩:=open_arg (m:=10) (ks:=[.i .i64,.i .i64,.i .i64,.i .u64,.i .u64,.i .u64,.i .u64,.i .u64,.i .i64,.i .i64]) (enc':=fun x:{x:cx // rT [.i .i64,.i .i64,.i .i64,.i .u64,.i .u64,.i .u64,.i .u64,.i .u64,.i .i64,.i .i64] (cx.C x)}=>cx.C x.1) underlying45 (by kernel_rfl) (by kernel_rfl) (by decide) decHistReal51 (hval 1 45 v1 rfl rfl) h1 (fun b o hb=>hfz b o (by simp [hb])) hb no_iface
 obtain ⟨A1,hf1⟩:=A1.sub
 generalize ys1.map (·.1) = xs1 at A1 hf1
 refine (run_spV A1 (ET:=T) (EF:=F) (sp_HistReal z0 s1 xs1 (fun p hp=>cw_of (hf1 p hp))) hb).mono fun e W' ⟨he,hk⟩=>?_
 subst he
 refine ⟨_,rfl,_,_,_,[],(p0++(p1++[])),[],hW',?_,?_,?_,keptBut_same hk.os hk.out hk.heap,fun h=>by cases h⟩
 ·exact trodAll_mk1 (shut_bool underlying4 true)
 ·exact same_post (by kernel_rfl) (by kernel_rfl) hst (fun p hp=>hW'.lt p (List.mem_append_left _ hp)) hk (fun p hp=>by simpa using hW'.lt p (List.mem_append_left _ hp))
 ·rfl
end
section
open Go Mb Go.ChangeShapes Go.WideShapes Go.RowKit
theorem jf0:Tryz.pinned.checked.prog.funcNamed Rows.histRealRow.func = some 12:=by kernel_rfl
theorem jf1:(Rows.histRealRow.wf (OpenSpec.ofChange Rows.histRealSpec) && laidOutB Tryz.pinned.checked.prog && mapsRowed Tryz.pinned.checked.prog) = true:=by kernel_rfl
theorem jf2:(Tryz.f12.params.all (Tryz.pinned.checked.prog.readableRec ·) && namedTie Tryz.pinned.checked.prog Rows.histRealRow.named Rows.histRealSpec.vars && (Rows.histRealRow.stops == []) && (Tryz.pinned.checked.prog.stops == []) && (Rows.histRealRow.knobs == []) && (Tryz.pinned.checked.prog.stopKnobs == [])) = true:=by kernel_rfl
theorem jf3:(Rows.histRealRow.inPlace == Tryz.pinned.checked.prog.inPlace 12) = true:=by kernel_rfl
theorem jf4:(Rows.histRealRow.unfollowed == Tryz.pinned.checked.prog.unfollowed 12) = true:=by kernel_rfl
theorem jf5:(Rows.histRealRow.recurses == Tryz.pinned.checked.prog.recurses 12) = true:=by kernel_rfl
theorem jf6:(Rows.histRealRow.named == Tryz.pinned.checked.prog.varsNamed 12) = true:=by kernel_rfl
theorem jf7:((Rows.histRealRow.maps == (Tryz.f12.params.toList++Rows.histRealSpec.plain.varTypes Tryz.pinned.checked.prog).any (Tryz.pinned.checked.prog.mapsRec ·)) && (Rows.histRealRow.ifaces == (Tryz.f12.params.toList++Rows.histRealSpec.plain.varTypes Tryz.pinned.checked.prog).any (Tryz.pinned.checked.prog.ifacesRec ·)) && (Rows.histRealRow.mapsOut == Tryz.pinned.checked.prog.mapsAmong Tryz.f12.resultTypes.toList) &&
 (Rows.histRealRow.loops == (Tryz.f12.params.toList++Rows.histRealSpec.plain.varTypes Tryz.pinned.checked.prog).any (Tryz.pinned.checked.prog.loopsFrom ·)) && (Rows.histRealRow.wideKeys == (Tryz.f12.params.toList++Rows.histRealSpec.plain.varTypes Tryz.pinned.checked.prog++Tryz.f12.resultTypes.toList).any (Tryz.pinned.checked.prog.wideKeysFrom ·)) &&
 Rows.histRealSpec.vars.all (Tryz.pinned.checked.prog.varReadable ·) && Tryz.f12.resultTypes.all (fun t=>Tryz.pinned.checked.prog.readableRec t && decide (t < Tryz.pinned.checked.prog.types.size)) && (Rows.histRealRow.ifacesOut == Tryz.f12.resultTypes.toList.any (Tryz.pinned.checked.prog.ifacesRec ·)) && (Rows.histRealRow.loopsOut == Tryz.f12.resultTypes.toList.any (Tryz.pinned.checked.prog.loopsFrom ·))) = true:=by kernel_rfl
theorem jf8:(Rows.histRealRow.plainKeys == Tryz.pinned.checked.prog.plainKeys) = true:=by kernel_rfl
theorem jf9:(Rows.histRealRow.shortTexts.isNone && Tryz.pinned.checked.prog.stopsHeard && Tryz.pinned.checked.prog.mayEnter && (Rows.histRealRow.lifted == Tryz.pinned.checked.prog.liftsFinal) && (Tryz.pinned.checked.prog.make == some Rows.histRealRow.make) && kindsB Tryz.pinned.checked.prog Tryz.f12 Rows.histRealRow && (Rows.histRealRow.pinned == Rows.histRealRow.pinnedBy) &&
 (Rows.histRealRow.veiled == (Tryz.f12.params.toList++Rows.histRealSpec.plain.varTypes Tryz.pinned.checked.prog++Tryz.f12.resultTypes.toList).any (Tryz.pinned.checked.prog.veiledRec ·)) && Rows.histRealRow.veiledFits Tryz.pinned.checked.prog Tryz.f12.params.toList (Tryz.f12.params.toList++Rows.histRealSpec.plain.varTypes Tryz.pinned.checked.prog++Tryz.f12.resultTypes.toList)) = true:=by kernel_rfl
theorem said_12:Rows.HistRealSaid :=
 OpenClaim.holds_of_wide 12 Tryz.f12 rfl rfl rfl rfl rfl rfl rfl ⟨rfl,rfl,rfl,rfl,rfl⟩ rfl rfl rfl rfl rfl jf0 func12 (joined_split jf1 jf2 jf3 jf4 jf5 jf6 jf7 jf8 jf9)
  (of_decide_eq_true (by kernel_rfl)) (by unfold Func.isWrapper; rw [if_neg (of_decide_eq_false (by kernel_rfl))]; exact ⟨rfl,rfl⟩)
  (fun os started H enc _=>lifted_12 os started H enc)
theorem histReal_holds:Rows.HistRealCardSaid :=
 Claim7.holds_tied_plain_at .later [] [.handle] true (true, "a63c83af46769ae5b2e0de3169bc55eed442217913052e397606a55bd0c0baed") true
  said_12 (fun _ h=>by cases h) (by kernel_rfl) (fun _ h=>by cases h) histReal_row_tie rfl ⟨rfl,rfl⟩ (by kernel_rfl) rfl
  (fun f fn hf hfn=>by
   obtain rfl:f = 12:=Option.some.inj ((show prog.funcNamed "messuage/messuagelaw16.HistReal" = some 12 by kernel_rfl).symm.trans hf) |>.symm
   obtain rfl:fn = Tryz.f12:=(Option.some.inj (func12.symm.trans hfn)).symm
   exact ⟨by kernel_rfl,fun j t ht=>by
    rw [Tryz.params12] at ht
    exact want_all (by kernel_rfl) (j:=j) (t:=t) ht⟩)
  (by kernel_rfl)
end
end Go.Proofs.YtemoifebbhoinaaGreatDoor
