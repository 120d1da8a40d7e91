/- The law TwinSelf returns true for every input, and leaves its arguments as they were. -/
import Derived.Test.YtmggcfijlpldpaaGreatDoorTwinSelf17
import Derived.Test.YtmggcfijlpldpaaGreatDoorCards
import Derived.Test.YtmggcfijlpldpaaGreatDoorRows
import Derived.Test.YtmggcfijlpldpaaGreatDoorTie
set_option linter.all false
set_option maxRecDepth 20000
namespace Go.Proofs.YtmggcfijlpldpaaGreatDoor
open Go Mb
theorem star_imp {l:List As} {i:Nat} {A B:As} {h:Hp} (hi:l[i]? = some A) (ab:∀ h,A h→B h) (s:aG l h):aG (l.set i B) h:=by
  obtain ⟨h1,h2,d,e,a,s'⟩:=ft hi s
  exact dM (List.getElem?_eq_some_iff.1 hi).1 ⟨h1,h2,d,e,ab _ a,s'⟩
theorem sliceTo_v {τ:Type} {P:Program} {l:List As} {h:Hp} {S T m bys i:Nat} {z:List Value} {enc:τ→List Value} {R:Sl→Value} {s:Sl} {xs:List τ} {n:Nat} {K:Sl→Hp→Prop} (E:El P S T m bys z) (he:∀ x,(enc x).length = m) (hR:R = sv) (st:aG l h) (hi:l[i]? = some (vec T m enc s xs)) (hn:n ≤ xs.length)
    (k:∀ v,v.len = n→(∀ h',vec T m enc v (xs.take n) h'→vec T m enc s xs h')→aG (l.set i (vec T m enc v (xs.take n))) h→K v h):hpv P (Instr.sliceAt S (sv s) none (some (.int .i64 n)) none) R K h:=by
  subst hR
  have hilt:=(List.getElem?_eq_some_iff.1 hi).1
  obtain ⟨e1,_⟩:=bX st hi
  have hcap:s.len ≤ s.cap:=by
    obtain ⟨_,⟨_,e2,_⟩,_⟩:=dT hi st
    exact e2
  have fin:∀ (v:Sl),v.a = s.a→v.len = n→v.cap = s.cap→(∀ h',vec T m enc v (xs.take n) h'→vec T m enc s xs h')→aG (l.set i (vec T m enc v (xs.take n))) h→hpv P (Instr.sliceAt S (sv s) none (some (.int .i64 n)) none) sv K h:=by
    intro v va vl vc vb vs
    have ev:sv (sub m s 0 n) = sv v:=by
      unfold sub sv
      rw [va,vl,vc]
      cases s.a with
      | none=>split <;> rfl
      | some q=>simp [pa]
    have H:=slice_raw (P:=P) (h:=h) (m:=m) (s:=s) (lo:=0) (hi:=n) (vlo:=none) (vhi:=some (.int .i64 n)) (R:=sv) (K:=fun r h'=>sv r = sv v∧h' = h) E rfl (.inr ⟨rfl,rfl⟩) (.inl rfl) (Nat.zero_le _) (by omega) ⟨ev,rfl⟩
    exact ⟨hp_mono _ (fun x h' ⟨r,e,e2,e3⟩=>⟨v,e.trans e2,by subst e3; exact k v vl vb vs⟩) _ H.go⟩
  obtain ⟨g1,g2,d,rfl,⟨f1,f2,f3⟩,s'⟩:=ft hi st
  rcases f3 with f3 | ⟨b,pre,rest,U,fr,f4,f5,f6,f7⟩
  · refine fin ⟨s.a,n,s.cap,none⟩ rfl rfl rfl (fun h' _=>⟨f1,f2,.inl f3⟩) (dM hilt ⟨g1,g2,d,rfl,⟨?_,?_,.inl f3⟩,s'⟩)
    · show n = _; simp; omega
    · show n ≤ s.cap; omega
  · have hfl:(xs.take n).flatMap enc++((xs.drop n).flatMap enc++rest) = xs.flatMap enc++rest:=by
      rw [← List.append_assoc,← List.flatMap_append,List.take_append_drop]
    have hdl:((xs.drop n).flatMap enc).length = (xs.length - n) * m:=by rw [dP he]; simp
    refine fin ⟨s.a,n,s.cap,some (pre,(xs.drop n).flatMap enc++rest,U,fr)⟩ rfl rfl rfl ?_ (dM hilt ⟨g1,g2,d,rfl,⟨?_,?_,.inr ⟨b,pre,(xs.drop n).flatMap enc++rest,U,fr,f4,?_,⟨rfl,(show nf fr pre.length (s.cap * m) from gh_nf f6)⟩,?_⟩⟩,s'⟩)
    · rintro h' ⟨a1,a2,a3⟩
      refine ⟨f1,f2,?_⟩
      rcases a3 with a3 | ⟨b',pre',rest',U',fr',c1,c2,c3,c4⟩
      · exact .inl a3
      · refine .inr ⟨b,pre,rest,U,fr,f4,f5,f6,?_⟩
        obtain ⟨c5,_⟩:=c3
        simp only [Prod.mk.injEq] at c5
        obtain ⟨rfl,rfl,rfl,rfl⟩:=c5
        have c1':s.a = some (b',pre.length):=c1
        rw [f4] at c1'
        simp only [Option.some.injEq,Prod.mk.injEq] at c1'
        obtain ⟨rfl,_⟩:=c1'
        rw [hfl] at c4
        exact c4
    · show n = _; simp; omega
    · show n ≤ s.cap; omega
    · show s.cap * m ≤ n * m + _
      rw [List.length_append,hdl,Nat.sub_mul]
      have:n * m ≤ xs.length * m:=Nat.mul_le_mul_right m hn
      rw [f1] at f5
      omega
    · rw [hfl]; exact f7
end Go.Proofs.YtmggcfijlpldpaaGreatDoor
namespace Go.Proofs.YtmggcfijlpldpaaGreatDoor
open Go Mb
theorem sp_Cut (s:Sl) (ps:List rc) (n:Int) (hn:0 ≤ n) (hn2:n < 2 ^ 40):Sp Tryz.prog mH [sv s,.int .i64 n] gZ [vK s ps] (fun r=>pa_ (∀ h',vK r (ps.take n.toNat) h'→vK s ps h') [vK r (ps.take n.toNat)]):=by
  intro h st
  refine sim_messuagelaw16_Cut _ _ ?_
  unfold qP
  have hl:=(bX (j:=0) st rfl).1
  have hm:mn (s.len:Int) n = ((min ps.length n.toNat:Nat):Int):=by unfold mn; rw [hl]; split <;> omega
  rw [hm]
  refine sliceTo_v (i:=0) xA pick_len rfl st rfl (Nat.min_le_left _ _) fun v _ hb s1=>?_
  have ht:ps.take (min ps.length n.toNat) = ps.take n.toNat:=by
    rcases Nat.le_total ps.length n.toNat with h1 | h1
    · rw [Nat.min_eq_left h1,List.take_of_length_le (Nat.le_refl _),List.take_of_length_le h1]
    · rw [Nat.min_eq_right h1]
  rw [ht] at hb s1
  exact aW hb s1
end Go.Proofs.YtmggcfijlpldpaaGreatDoor
namespace Go.Proofs.YtmggcfijlpldpaaGreatDoor
open Go Mb Go.ChangeShapes Go.WideShapes Go.RowKit
theorem Tryz.own:ownKnob Tryz.prog.godebug = none:=by kernel_rfl
theorem Tryz.et:Tryz.prog.globalNamed "errors.errorType" = some 0:=by kernel_rfl
theorem Tryz.rt:(Tryz.prog.cutTypes.find? (·.1 == "internal/reflectlite.rtype")).map (·.2) = some rz:=by kernel_rfl
abbrev laid:List (String × DataW Unit) := [("errors.errorType",Rows.laid_errors_errorType)]
theorem block_of_laid {W:World} (h:laidMetH Tryz.prog laid W):∃ T F,W.heap[0]? = some (.cells #[rtV gj] T F):=by
  have h':laidMet Tryz.prog [] W∧handlesMet Tryz.prog laid W:=h
  obtain ⟨name,u,ty,e1,e2,e3,e4,e5⟩:=h'.2 _ (List.mem_singleton.2 rfl)
  have en:name = [101,114,114,111,114]:=(Option.some.inj e1).symm
  subst en
  obtain rfl:=Option.some.inj (Tryz.rt.symm.trans e2)
  have hm:ty ∈ (List.range 350).filter fun t=>Tryz.prog.rowNamed t [101,114,114,111,114]:=List.mem_filter.2 ⟨List.mem_range.2 (by rw [← g4]; exact e3),e4⟩
  rw [oneErr] at hm
  obtain rfl:=List.mem_singleton.1 hm
  have hh:typeHandle Tryz.prog 195 = .pointer (some ⟨4,195,none⟩):=by kernel_rfl
  rw [hh] at e5
  unfold World.var? at e5
  rw [Tryz.et] at e5
  simp only [Option.bind_some] at e5
  split at e5
  · rename_i cs T F hq
    cases e5
    exact ⟨T,F,hq⟩
  · cases e5
noncomputable def laidWorld (os:Os):World :=
  let w0:=World.holding Tryz.prog os ⟨#[],#[],[]⟩
  { w0 with heap:=w0.heap.modify 0 fun
      | .cells _ t frozen=>.cells #[rtV gj] t frozen
      | o=>o }
theorem laidWorld_met (os:Os) (args:Array Value):laidMetH Tryz.prog laid ((laidWorld os).forCall (fun _ _=>0) ⟨#[],args,[]⟩).memory :=
  laidMetH_of_parts (laidMet_nil _ _) (by kernel_rfl)
theorem keptBut_same {w w':World} {may:MemPlace→Prop} (h1:w'.os = w.os) (h2:w'.output = w.output) (h:∀ i,i < w.heap.size→w'.heap[i]? = w.heap[i]?):w.keptBut w' may:=by
  refine ⟨h1,h2,fun i hi=>?_⟩
  have:=(World.keptBut_refl w may).2.2 i hi
  rw [h i hi]
  exact this
def kindsB (P:Program) (fn:Func) (c:OpenClaim):Bool:=c.kinds == (if c.domain.isEmpty then [] else fn.params.toList.map fun t=>match P.underlying t with | some (.int k)=>some k | _=>none)
theorem joined_split {P:Program} {f:FuncId} {fn:Func} {s:ChangeSpec} {c:OpenClaim} (h1:(c.wf (OpenSpec.ofChange s) && laidOutB P && mapsRowed P) = true)
    (h2:(fn.params.all (P.readableRec ·) && namedTie P c.named s.vars && (c.stops == []) && (P.stops == []) && (c.knobs == []) && (P.stopKnobs == [])) = true)
    (h3:(c.inPlace == P.inPlace f) = true) (h4:(c.unfollowed == P.unfollowed f) = true) (h5:(c.recurses == P.recurses f) = true) (h6:(c.named == P.varsNamed f) = true)
    (h7:((c.maps == (fn.params.toList++s.plain.varTypes P).any (P.mapsRec ·)) && (c.ifaces == (fn.params.toList++s.plain.varTypes P).any (P.ifacesRec ·)) && (c.mapsOut == P.mapsAmong fn.resultTypes.toList) &&
  (c.loops == (fn.params.toList++s.plain.varTypes P).any (P.loopsFrom ·)) && (c.wideKeys == (fn.params.toList++s.plain.varTypes P++fn.resultTypes.toList).any (P.wideKeysFrom ·)) &&
  s.vars.all (P.varReadable ·) && fn.resultTypes.all (fun t=>P.readableRec t && decide (t < P.types.size)) && (c.ifacesOut == fn.resultTypes.toList.any (P.ifacesRec ·)) && (c.loopsOut == fn.resultTypes.toList.any (P.loopsFrom ·))) = true)
    (h8:(c.plainKeys == P.plainKeys) = true) (h9:(c.shortTexts.isNone && P.stopsHeard && P.mayEnter && (c.lifted == P.liftsFinal) && (P.make == some c.make) && kindsB P fn c && (c.pinned == c.pinnedBy) &&
  (c.veiled == (fn.params.toList++s.plain.varTypes P++fn.resultTypes.toList).any (P.veiledRec ·)) && c.veiledFits P fn.params.toList (fn.params.toList++s.plain.varTypes P++fn.resultTypes.toList)) = true):joinedFacts P f fn s c = true:=by
  unfold joinedFacts
  unfold kindsB at h9
  rw [Bool.and_eq_true] at h1 h2 h7 h9
  simp only [Bool.and_eq_true] at h1 h2 h7 h9
  obtain ⟨⟨a1,a2⟩,a3⟩:=h1
  obtain ⟨⟨⟨⟨⟨b1,b2⟩,b3⟩,b4⟩,b5⟩,b6⟩:=h2
  obtain ⟨⟨⟨⟨⟨⟨⟨⟨c1,c2⟩,c3⟩,c4⟩,c5⟩,c6⟩,c7⟩,c8⟩,c9⟩:=h7
  obtain ⟨⟨⟨⟨⟨⟨⟨⟨d1,d2⟩,d3⟩,d4⟩,d5⟩,d6⟩,d7⟩,d8⟩,d9⟩:=h9
  simp only [Bool.and_eq_true]
  exact ⟨⟨⟨⟨⟨⟨⟨⟨⟨⟨⟨⟨⟨⟨⟨⟨⟨⟨⟨⟨⟨⟨⟨⟨⟨⟨⟨⟨⟨⟨⟨a1,a2⟩,a3⟩,b1⟩,b2⟩,b3⟩,b4⟩,b5⟩,b6⟩,h3⟩,h4⟩,h5⟩,h6⟩,c1⟩,c2⟩,c3⟩,c4⟩,c5⟩,c6⟩,c7⟩,c8⟩,c9⟩,h8⟩,d1⟩,d2⟩,d3⟩,d4⟩,d5⟩,d6⟩,d7⟩,d8⟩,d9⟩
end Go.Proofs.YtmggcfijlpldpaaGreatDoor
namespace Go.Proofs.YtmggcfijlpldpaaGreatDoor
open Go Mb Go.ChangeShapes Go.WideShapes Go.RowKit
inductive FK where
  | i (k:IntKind)
  | b
def FK.ok:FK→Value→Prop
  | .i k,v=>∃ n,v = .int k n∧(Lit.int k n).wf = true
  | .b,v=>∃ x,v = .bool x
def rd:List FK→List Value→Prop
  | [],[]=>True
  | k::ks,v::vs=>k.ok v∧rd ks vs
  | _,_=>False
theorem rd.app:∀ {ks ls:List FK} {vs ws:List Value},rd ks vs→rd ls ws→rd (ks++ls) (vs++ws)
  | [],_,[],_,_,h=>h
  | _::_,_,_::_,_,h,g=>⟨h.1,h.2.app g⟩
  | [],_,_::_,_,h,_=>h.elim
  | _::_,_,[],_,h,_=>h.elim
theorem rd.len:∀ {ks:List FK} {vs:List Value},rd ks vs→vs.length = ks.length
  | [],[],_=>rfl
  | _::_,_::_,h=>by simp [h.2.len]
  | [],_::_,h=>h.elim
  | _::_,[],h=>h.elim
def fldK (P:Program) (r:TypeId→Option (List FK)):Nat→List Field→Option (List FK)
  | _,[]=>some []
  | o,f::fs=>if f.offset = o then (r f.type).bind fun ks=>if ks.length = P.cellsOf f.type then (fldK P r (o + ks.length) fs).map (ks++·) else none else none
def flatK (P:Program):Nat→TypeId→Option (List FK)
  | 0,_=>none
  | n + 1,t=>match P.underlying t with
    | some (.int k)=>some [.i k]
    | some .bool=>some [.b]
    | some (.struct fs)=>(fldK P (flatK P n) 0 fs.toList).bind fun ks=>if ks.length = P.cellsOf t then some ks else none
    | some (.array m e)=>(flatK P n e).bind fun ks=>if ks.length = P.cellsOf e∧m * ks.length = P.cellsOf t then some (List.replicate m ks).flatten else none
    | _=>none
section
variable {H:Type} {enc:TypeId × Value→H} {P:Program} {W:World} {base:Nat} {sp:Nat→Bool} {held:Bool}
theorem trod_array {t e m fuel:Nat} {cs:List Value} {x:DataW H × List MemPlace} (ht:P.underlying t = some (.array m e)) (h:DataW.trod enc P W base sp held fuel t cs = some x) :
    ∃ (xs:List (DataW H × List MemPlace)) (n:Nat),fuel = n + 1∧x = (.agg (xs.map (·.1)),xs.flatMap (·.2))∧cs.length = P.cellsOf t∧xs.length = m ∧
      ∀ i,i < m→DataW.trod enc P W base sp held n e ((cs.drop (i * P.cellsOf e)).take (P.cellsOf e)) = xs[i]?:=by
  cases fuel with
  | zero=>simp [DataW.trod] at h
  | succ n =>
    unfold DataW.trod at h
    rw [ht] at h
    split at h <;> simp_all
    obtain ⟨hl,xs,hp,hd⟩:=h
    refine ⟨xs,hd.symm,by simpa using mapM_some_length hp,fun i hi=>mapM_some_get hp i i (by simp [hi])⟩
theorem flatMap_nil {α β:Type} {f:α→List β} {xs:List α} (h:∀ x ∈ xs,f x = []):xs.flatMap f = []:=by
  rw [List.flatMap_eq_nil_iff]; exact h
theorem take_drop_take (cs:List Value) (o n:Nat):(cs.drop o).take n++cs.drop (o + n) = cs.drop o:=by
  rw [← List.drop_drop,List.take_append_drop]
theorem fld_fits {r:TypeId→Option (List FK)} {cs:List Value} {g:TypeId→List Value→Option (DataW H × List MemPlace)} (hr:∀ t ks cs x,r t = some ks→g t cs = some x→rd ks cs∧x.2 = []) :
    ∀ (fs:List Field) (o:Nat) (ks:List FK),fldK P r o fs = some ks→(∀ f ∈ fs,∃ x,g f.type ((cs.drop f.offset).take (P.cellsOf f.type)) = some x)→o + ks.length = cs.length→rd ks (cs.drop o)
  | [],o,ks,h,_,hl=>by
    simp only [fldK,Option.some.injEq] at h
    subst h
    have:cs.drop o = []:=List.drop_eq_nil_of_le (by simp at hl; omega)
    rw [this]; trivial
  | f::fs,o,ks,h,hx,hl=>by
    unfold fldK at h
    split at h
    · rename_i ho
      obtain ⟨ks1,h1,h2⟩:=Option.bind_eq_some_iff.1 h
      split at h2
      · rename_i hc
        obtain ⟨ks2,h3,rfl⟩:=Option.map_eq_some_iff.1 h2
        obtain ⟨x,hx1⟩:=hx f (by simp)
        have f1:=(hr _ _ _ _ h1 hx1).1
        have f2:=fld_fits hr fs (o + ks1.length) ks2 h3 (fun f' hf'=>hx f' (by simp [hf'])) (by simp at hl; omega)
        rw [ho,← hc] at f1
        have:=f1.app f2
        rwa [take_drop_take] at this
      · cases h2
    · cases h
theorem arr_fits {ks:List FK} {c:Nat} (hc:ks.length = c):∀ (m:Nat) (cs:List Value),cs.length = m * c→(∀ i,i < m→rd ks ((cs.drop (i * c)).take c))→rd (List.replicate m ks).flatten cs
  | 0,cs,hl,_=>by
    have:cs = []:=List.eq_nil_of_length_eq_zero (by simpa using hl)
    subst this; trivial
  | m + 1,cs,hl,h=>by
    rw [List.replicate_succ,List.flatten_cons]
    have h0:=h 0 (by omega)
    simp only [Nat.zero_mul,List.drop_zero] at h0
    have h1:=arr_fits hc m (cs.drop c) (by rw [List.length_drop,hl,Nat.succ_mul]; omega) (fun i hi=>by
      have:=h (i + 1) (by omega)
      rwa [List.drop_drop,Nat.add_comm,← Nat.succ_mul])
    have:=h0.app h1
    rwa [List.take_append_drop] at this
theorem trod_flat:∀ (n t:Nat) (ks:List FK),flatK P n t = some ks→∀ (fuel:Nat) (cs:List Value) (x:DataW H × List MemPlace),DataW.trod enc P W base sp held fuel t cs = some x→rd ks cs∧x.2 = []
  | 0,_,_,h,_,_,_,_=>by cases h
  | n + 1,t,ks,h,fuel,cs,x,hx=>by
    have ih:=trod_flat n
    unfold flatK at h
    split at h
    · rename_i k hu
      cases h
      obtain ⟨m,rfl,rfl,hw⟩:=DataW.trod_int hu hx
      exact ⟨⟨⟨m,rfl,hw⟩,trivial⟩,rfl⟩
    · rename_i hu
      cases h
      obtain ⟨b,rfl,rfl⟩:=DataW.trod_bool hu hx
      exact ⟨⟨⟨b,rfl⟩,trivial⟩,rfl⟩
    · rename_i fs hu
      obtain ⟨ks',h1,h2⟩:=Option.bind_eq_some_iff.1 h
      split at h2
      · rename_i hc
        cases h2
        obtain ⟨xs,f,rfl,rfl,hl,hxl,hi⟩:=DataW.trod_struct hu hx
        have hall:∀ fl ∈ fs.toList,∃ x,DataW.trod enc P W base sp held f fl.type ((cs.drop fl.offset).take (P.cellsOf fl.type)) = some x:=by
          intro fl hfl
          obtain ⟨i,hi1,hi2⟩:=List.getElem_of_mem hfl
          have:=hi i fl (by rw [← Array.getElem?_toList,List.getElem?_eq_getElem hi1,hi2])
          have hlt:i < xs.length:=by rw [hxl]; simpa using hi1
          rw [List.getElem?_eq_getElem hlt] at this
          exact ⟨_,this⟩
        refine ⟨?_,flatMap_nil fun y hy=>?_⟩
        · have:=fld_fits (P:=P) (cs:=cs) (fun t ks cs x h=>ih t ks h f cs x) fs.toList 0 ks h1 hall (by rw [hc,hl]; omega)
          simpa using this
        · obtain ⟨i,hi1,rfl⟩:=List.getElem_of_mem hy
          have hif:i < fs.size:=by rw [← hxl]; exact hi1
          have h3:=hi i fs[i] (by simp [hif])
          rw [List.getElem?_eq_getElem hi1] at h3
          have key:∀ (l:List Field) (o:Nat) (ks:List FK),fldK P (flatK P n) o l = some ks→∀ fl ∈ l,∃ ks,flatK P n fl.type = some ks:=by
            intro l
            induction l with
            | nil=>intro _ _ _ fl h; cases h
            | cons a l ihl =>
              intro o ks hk fl hfl
              unfold fldK at hk
              split at hk
              · obtain ⟨k1,hk1,hk2⟩:=Option.bind_eq_some_iff.1 hk
                rcases List.mem_cons.1 hfl with rfl | hfl
                · exact ⟨_,hk1⟩
                · split at hk2
                  · obtain ⟨k2,hk3,_⟩:=Option.map_eq_some_iff.1 hk2
                    exact ihl _ _ hk3 fl hfl
                  · cases hk2
              · cases hk
          obtain ⟨ks2,hks2⟩:=key _ _ _ h1 fs[i] (by simp)
          exact (ih _ _ hks2 _ _ _ h3).2
      · cases h2
    · rename_i m e hu
      obtain ⟨ks',h1,h2⟩:=Option.bind_eq_some_iff.1 h
      split at h2
      · rename_i hc
        cases h2
        obtain ⟨xs,f,rfl,rfl,hl,hxl,hi⟩:=trod_array hu hx
        have hat:∀ i,i < m→∃ x,xs[i]? = some x∧DataW.trod enc P W base sp held f e ((cs.drop (i * P.cellsOf e)).take (P.cellsOf e)) = some x:=fun i him=>by
          have:=hi i him
          rw [List.getElem?_eq_getElem (by omega)] at this
          exact ⟨_,List.getElem?_eq_getElem (by omega),this⟩
        refine ⟨arr_fits (by exact hc.1) m cs (by rw [hl,← hc.2,hc.1]) (fun i him=>?_),flatMap_nil fun y hy=>?_⟩
        · obtain ⟨x,_,hx2⟩:=hat i him
          exact (ih _ _ h1 _ _ _ hx2).1
        · obtain ⟨i,hi1,rfl⟩:=List.getElem_of_mem hy
          obtain ⟨x,hx1,hx2⟩:=hat i (by omega)
          rw [List.getElem?_eq_getElem hi1] at hx1
          cases hx1
          exact (ih _ _ h1 _ _ _ hx2).2
      · cases h2
    · cases h
end
structure Arg {τ:Type} (W:World) (m:Nat) (enc:τ→List Value) (s:Sl) (xs:List τ):Prop where
  len:s.len = xs.length
  cap:s.len ≤ s.cap
  row:s.cap = 0∨∃ b pre rest U fr,s.a = some (b,pre.length)∧s.cap * m ≤ s.len * m + rest.length∧s.g = some (pre,rest,U,fr)∧nf fr pre.length (s.cap * m)∧b ≠ 0∧W.heap[b]? = some (.cells (pre++(xs.flatMap enc++rest)).toArray U fr)
section
variable {H:Type} {enc:TypeId × Value→H} {P:Program} {W:World}
theorem has_spot {r:Reach} {b0:Nat} {t e:TypeId} {a:Addr} {len cap:Nat} (ht:P.underlying t = some (.slice e)) (h:Value.okWide P W r b0 t (.slice (some a) len cap)):a.spot = none∧∃ c T fr,W.heap[a.block]? = some (.cells c T fr):=by
  unfold Value.okWide at h
  rw [ht] at h
  unfold Cell.okWide at h
  rw [ht] at h
  simp only at h
  unfold Cell.ok at h
  rw [ht] at h
  simp only at h
  obtain ⟨_,_,_,hs,row,cells,h1,_⟩:=h
  refine ⟨hs,?_⟩
  unfold World.shape? at h1
  split at h1
  · rename_i c T fr hq
    exact ⟨_,_,_,hq⟩
  · cases h1
theorem open_arg {τ:Type} {b0 m:Nat} {t e:TypeId} {ks:List FK} {enc':τ→List Value} {v:Value} {d:DataW H} {ps:List MemPlace} {ET:Nat} {EF:Nat × Nat} {X:Value} (ht:P.underlying t = some (.slice e)) (hm:P.cellsOf e = m) (hk:flatK P 9 e = some ks) (hpos:0 < m)
    (dec:∀ cs,rd ks cs→∃ x:τ,enc' x = cs) (hval:Value.okWide P W .any b0 t v) (hd:DataW.Trod enc P W 0 (fun _=>true) true t v d ps) (hz:W.noneFrozen ps)
    (hw:W.heap[0]? = some (.cells #[X] ET EF)) (hX:∀ k,¬ FK.ok k X):∃ (s:Sl) (xs:List τ),v = sv s∧Arg W m enc' s xs:=by
  obtain ⟨a0,len0,lJ,rfl⟩:=okWide_slice ht hval
  obtain ⟨fuel,hf⟩:=hd
  rcases Go.Deep.open_slice ht hf with ⟨h1,_⟩ | ⟨a,len,cap,mm,n,D,Pl,h1,_,hl,_,hmm,hx,hi⟩
  · simp only [Value.cells,List.cons.injEq,Value.slice.injEq,and_true] at h1
    obtain ⟨rfl,rfl,rfl⟩:=h1
    exact ⟨⟨none,0,0,none⟩,[],rfl,rfl,Nat.le_refl _,.inl rfl⟩
  · simp only [Value.cells,List.cons.injEq,Value.slice.injEq,and_true] at h1
    obtain ⟨rfl,rfl,rfl⟩:=h1
    simp only [if_true] at hmm
    subst hmm
    obtain ⟨hs,c,T,fr,hb⟩:=has_spot ht hval
    obtain ⟨b,off,spot⟩:=a
    simp only at hs hb
    subst hs
    by_cases hc0:mm = 0
    · subst hc0
      obtain rfl:len0 = 0:=by omega
      exact ⟨⟨some (b,off),0,0,none⟩,[],rfl,rfl,Nat.le_refl _,.inl rfl⟩
    rw [hm] at hi hx
    have la:∀ i,i < mm→∃ x:τ,(enc' x).length = m∧rd ks (enc' x)∧∀ j,j < m→c.toList[off + i * m + j]? = (enc' x)[j]?:=by
      intro i him
      obtain ⟨cs',h2,h3⟩:=hi i him
      obtain ⟨_,hlen,hget⟩:=World.cells?_some h2
      have hfit:=(trod_flat 9 e ks hk _ _ _ h3).1
      obtain ⟨x,rfl⟩:=dec cs' hfit
      refine ⟨x,hlen,hfit,fun j hj=>?_⟩
      have:=hget j hj
      rw [WideShapes.add_plain,WideShapes.add_plain] at this
      rw [← this]
      unfold World.cell?
      rw [hb]
      simp
    have hsize:off + mm * m ≤ c.toList.length:=by
      obtain ⟨x,hxl,_,hj⟩:=la (mm - 1) (by omega)
      have h4:=hj (m - 1) (by omega)
      have h5:=(List.getElem?_eq_some_iff.1 (h4.trans (List.getElem?_eq_getElem (by omega)))).1
      have:mm * m = (mm - 1) * m + m:=by rw [← Nat.succ_mul]; congr 1; omega
      omega
    have hflat:∀ k,k ≤ mm→∃ ys:List τ,ys.length = k∧(c.toList.drop off).take (k * m) = ys.flatMap enc':=by
      intro k
      induction k with
      | zero=>exact fun _=>⟨[],rfl,by simp⟩
      | succ k ih =>
        intro hk1
        obtain ⟨ys,hy1,hy2⟩:=ih (by omega)
        obtain ⟨x,hxl,_,hj⟩:=la k (by omega)
        refine ⟨ys++[x],by simp [hy1],?_⟩
        rw [Nat.succ_mul,List.take_add,hy2,List.flatMap_append]
        congr 1
        simp only [List.flatMap_cons,List.flatMap_nil,List.append_nil]
        apply List.ext_getElem?
        intro j
        rw [List.drop_drop,List.getElem?_take,List.getElem?_drop]
        by_cases hjm:j < m
        · rw [if_pos hjm,← hj j hjm]
        · rw [if_neg hjm,List.getElem?_eq_none (by omega)]
    obtain ⟨xs,hx1,hx2⟩:=hflat len0 hl
    have hlm:len0 * m ≤ mm * m:=Nat.mul_le_mul_right m hl
    refine ⟨⟨some (b,off),len0,mm,some (c.toList.take off,c.toList.drop (off + len0 * m),T,fr)⟩,xs,rfl,hx1.symm,hl,.inr ⟨b,c.toList.take off,c.toList.drop (off + len0 * m),T,fr,?_,?_,rfl,?_,?_,?_⟩⟩
    · rw [List.length_take,Nat.min_eq_left (by omega)]
    · show mm * m ≤ len0 * m + _
      rw [List.length_drop]; omega
    · rw [List.length_take,Nat.min_eq_left (by omega)]
      intro j j1 j2
      have j2':j < off + mm * m:=j2
      have hp:MemPlace.cell b j ∈ ps:=by
        have hps:=congrArg Prod.snd hx
        simp only at hps
        rw [hps]
        refine List.mem_append_left _ (List.mem_map.2 ⟨j - off,List.mem_range.2 (by omega),?_⟩)
        show MemPlace.cell b (off + (j - off)) = _
        congr 1; omega
      have:=hz b j hp
      unfold World.frozen? at this
      simp only [hb] at this
      exact this
    · rintro rfl
      rw [hw] at hb
      cases hb
      obtain ⟨x,hxl,hfit,hj⟩:=la 0 (by omega)
      have h4:=hj 0 hpos
      simp only [Nat.zero_mul,Nat.add_zero] at h4
      cases hks:ks with
      | nil=>subst hks; have:=hfit.len; simp at this; simp [this] at hxl; omega
      | cons k ks' =>
        subst hks
        cases hex:enc' x with
        | nil=>rw [hex] at hxl; simp at hxl; omega
        | cons y ys =>
          rw [hex] at hfit h4
          simp only [List.getElem?_cons_zero] at h4
          have h5:y = X:=by
            cases off with
            | zero=>simpa using h4.symm
            | succ o=>simp at h4
          exact hX k (h5 ▸ hfit.1)
    · rw [hb]
      congr 2
      apply Array.ext'
      show c.toList = c.toList.take off++(xs.flatMap enc'++c.toList.drop (off + len0 * m))
      rw [← hx2,← List.drop_drop,List.take_append_drop,List.take_append_drop]
theorem open_struct {b0:Nat} {t:TypeId} {fs:Array Field} {ks:List FK} {v:Value} {d:DataW H} {ps:List MemPlace} (ht:P.underlying t = some (.struct fs)) (hk:flatK P 9 t = some ks) (hval:Value.okWide P W .any b0 t v) (hd:DataW.Trod enc P W 0 (fun _=>true) true t v d ps):∃ cs:List Value,v = .agg cs.toArray∧rd ks cs:=by
  obtain ⟨cs,rfl,_⟩:=okWide_struct ht hval
  obtain ⟨fuel,hf⟩:=hd
  exact ⟨cs.toList,by simp,(trod_flat 9 t ks hk _ _ _ hf).1⟩
theorem trodAll_stays (hl:laidOutB P = true) {W':World} {sp':Nat→Bool}:∀ {ts:List TypeId} {vs:List Value} {ds:List (DataW H)} {ps:List MemPlace},(∀ t ∈ ts,P.readableRec t = true∧t < P.types.size) →
    DataW.TrodAll enc P W 0 (fun _=>true) true ts vs ds ps→(∀ p ∈ ps,W.sameAt W' p)→(∀ p ∈ ps,sp' p.block = true)→DataW.TrodAll enc P W' 0 sp' true ts vs ds ps
  | [],_,_,_,_,h,_,_=>by
    obtain ⟨rfl,rfl,rfl⟩:=trodAll_nil h
    rfl
  | t::ts,_,_,_,hr,h,hs,hp=>by
    obtain ⟨v,vs,d,ds,a,b,rfl,rfl,rfl,h1,h2⟩:=trodAll_cons h
    exact ⟨a,b,Go.WideElems.Trod_stays hl (hr t (by simp)).1 (hr t (by simp)).2 h1 (fun p q=>hs p (by simp [q])) (fun p q=>hp p (by simp [q])),trodAll_stays hl (fun t q=>hr t (by simp [q])) h2 (fun p q=>hs p (by simp [q])) (fun p q=>hp p (by simp [q])),rfl⟩
end
end Go.Proofs.YtmggcfijlpldpaaGreatDoor
namespace Go.Proofs.YtmggcfijlpldpaaGreatDoor
open Go Mb Go.ChangeShapes Go.WideShapes Go.RowKit
theorem no_iface (k:FK):¬ FK.ok k (rtV gj):=by
  cases k with
  | i k=>rintro ⟨n,h,_⟩; cases h
  | b=>rintro ⟨x,h⟩; cases h
theorem fit_cons {k:FK} {ks:List FK} {cs:List Value} (h:rd (k::ks) cs):∃ v vs,cs = v::vs∧k.ok v∧rd ks vs:=by
  cases cs with
  | nil=>exact h.elim
  | cons v vs=>exact ⟨v,vs,rfl,h.1,h.2⟩
theorem wc {k:IntKind} {ks:List FK} {cs:List Value} (h:rd (.i k::ks) cs):∃ (n:Int) (vs:List Value),cs = .int k n::vs∧(Lit.int k n).wf = true∧rd ks vs:=by
  obtain ⟨v,vs,rfl,⟨n,rfl,hw⟩,hf⟩:=fit_cons h
  exact ⟨n,vs,rfl,hw,hf⟩
theorem fit_nil {cs:List Value} (h:rd [] cs):cs = []:=by
  cases cs with
  | nil=>rfl
  | cons v vs=>exact h.elim
theorem wf_u {n:Int} (h:(Lit.int .u64 n).wf = true):0 ≤ n∧n < 2 ^ 64:=by
  have:=(Lit.wf_int_iff .u64 n).1 h
  simp [IntKind.has,IntKind.min,IntKind.max,IntKind.signed,IntKind.bits] at this
  omega
theorem Arg.sub {τ:Type} {P:τ→Prop} {W:World} {m:Nat} {C:τ→List Value} {s:Sl} {xs:List {x:τ // P x}} (A:Arg W m (fun x=>C x.1) s xs):Arg W m C s (xs.map (·.1))∧∀ x ∈ xs.map (·.1),P x:=by
  refine ⟨⟨by simpa using A.len,A.cap,?_⟩,fun x hx=>?_⟩
  · have e:(xs.map (·.1)).flatMap C = xs.flatMap (fun x=>C x.1):=by rw [List.flatMap_map]
    rw [e]; exact A.row
  · obtain ⟨y,_,rfl⟩:=List.mem_map.1 hx
    exact y.2
structure Same (W W':World):Prop where
  os:W'.os = W.os
  out:W'.output = W.output
  heap:∀ i,i < W.heap.size→W'.heap[i]? = W.heap[i]?
theorem Same.cell {W W':World} (s:Same W W') {p:MemPlace} (h:p.block < W.heap.size):W.sameAt W' p:=by
  cases p with
  | cell b off =>
    show W'.cell? _ = W.cell? _
    unfold World.cell?
    rw [s.heap b h]
  | map b=>exact s.heap b h
theorem run_spV {τ:Type} {T m:Nat} {enc:τ→List Value} {s:Sl} {xs:List τ} {f:FuncId} {vs:List Value} {ET:Nat} {EF:Nat × Nat} {W:World} (A:Arg W m enc s xs)
    (c:Sp Tryz.prog f vs az [etB ET EF,vec T m enc s xs] (fun r=>pa_ (r = true) [etB ET EF,vec T m enc s xs])) (hw:W.heap[0]? = some (.cells #[rtV gj] ET EF)) :
    Calls Tryz.prog f vs.toArray W fun e W'=>e = .returned (.bool true)∧Same W W':=by
  have key:∀ (g:Hp),g 0 = none→(∀ b o,g b = some o→W.heap[b]? = some o)→vec T m enc s xs g→(∀ g',vec T m enc s xs g'→∀ b o,g b = some o→g' b = some o) →
      Calls Tryz.prog f vs.toArray W fun e W'=>e = .returned (.bool true)∧Same W W':=by
    intro g g0 gW gv gk
    have hs:Sub (un (dW emp 0 (.cells #[rtV gj] ET EF)) g) W:=by
      intro b o ho
      by_cases hb:b = 0
      · subst hb; rw [un_left (jC _ _ _)] at ho; rw [hw]; exact ho
      · rw [un_right (qj _ _ _ hb)] at ho; exact gW b o ho
    have hd:Dj (dW emp 0 (.cells #[rtV gj] ET EF)) g:=fun b=>by
      by_cases hb:b = 0
      · subst hb; exact .inr g0
      · exact .inl (qj _ _ _ hb)
    have hst:aG [etB ET EF,vec T m enc s xs] (un (dW emp 0 (.cells #[rtV gj] ET EF)) g):=⟨_,_,hd,rfl,jC _ _ _,wu gv⟩
    refine (c _ hst W hs).mono ?_
    rintro e W' ⟨v,h',rfl,⟨r,rfl,q⟩,s',fr⟩
    obtain ⟨rfl,q⟩:=q
    obtain ⟨g1,a1,sub1⟩:=dT (i:=0) (A:=etB ET EF) rfl q
    obtain ⟨g2,a2,sub2⟩:=dT (i:=1) (A:=vec T m enc s xs) rfl q
    refine ⟨rfl,fr.os,fr.out,fun i hi=>?_⟩
    rcases Nat.eq_zero_or_pos i with rfl | hp
    · rw [s' _ _ (sub1 _ _ a1),hw]
    · cases hg:g i with
      | none=>exact fr.same i hi (tX.2 ⟨qj _ _ _ (by omega),hg⟩)
      | some o=>rw [s' _ _ (sub2 _ _ (gk g2 a2 i o hg)),gW i o hg]
  rcases A.row with h0 | ⟨b,pre,rest,U,fr,h1,h2,h3,h4,h5,h6⟩
  · exact key emp rfl (fun b o h=>by cases h) ⟨A.len,A.cap,.inl h0⟩ (fun _ _ b o h=>by cases h)
  · by_cases h0:s.cap = 0
    · exact key emp rfl (fun b o h=>by cases h) ⟨A.len,A.cap,.inl h0⟩ (fun _ _ b o h=>by cases h)
    · refine key (dW emp b (.cells (pre++(xs.flatMap enc++rest)).toArray U fr)) (qj _ _ _ (Ne.symm h5)) ?_ ⟨A.len,A.cap,.inr ⟨b,pre,rest,U,fr,h1,h2,?_,jC _ _ _⟩⟩ ?_
      · intro b' o ho
        unfold dW at ho
        split at ho
        · rename_i hb; subst hb; rw [h6]; exact ho
        · cases ho
      · unfold gh; rw [h3]; exact ⟨rfl,h4⟩
      · rintro g' ⟨_,_,r⟩ b' o ho
        rcases r with r | ⟨c',pre',rest',U',fr',r1,_,r3,r4⟩
        · exact absurd r h0
        · rw [h1] at r1
          unfold gh at r3
          rw [h3] at r3
          obtain ⟨r5,_⟩:=r3
          simp only [Prod.mk.injEq] at r5
          obtain ⟨rfl,rfl,rfl,rfl⟩:=r5
          simp only [Option.some.injEq,Prod.mk.injEq] at r1
          obtain ⟨rfl,_⟩:=r1
          unfold dW at ho
          split at ho
          · rename_i hb; subst hb; cases ho; exact r4
          · cases ho
theorem same_post {H:Type} {enc:TypeId × Value→H} {W W':World} {ts:List TypeId} {vs:List Value} {ds:List (DataW H)} {ps:List MemPlace} {sp:Nat→Bool} (hl:laidOutB Tryz.prog = true) (hr:(ts.all fun t=>Tryz.prog.readableRec t && decide (t < Tryz.prog.types.size)) = true)
    (h:DataW.TrodAll enc Tryz.prog W 0 (fun _=>true) true ts vs ds ps) (hlt:∀ p ∈ ps,p.block < W.heap.size) (s:Same W W') (hs:∀ p ∈ ps,sp p.block = true):DataW.TrodAll enc Tryz.prog W' 0 sp true ts vs ds ps :=
  trodAll_stays hl (fun t ht=>by
    have:=List.all_eq_true.1 hr t ht
    simp only [Bool.and_eq_true,decide_eq_true_eq] at this
    exact this) h (fun p hp=>s.cell (hlt p hp)) hs
theorem want_all {ts:List TypeId} (h:(ts.all fun t=>!(Tryz.prog.wantsStandIn t)) = true) {j:Nat} {t:TypeId} (ht:ts.toArray[j]? = some t):Tryz.prog.wantsStandIn t = false:=by
  have:=List.all_eq_true.1 h t (List.mem_of_getElem? (by simpa using ht))
  simpa using this
end Go.Proofs.YtmggcfijlpldpaaGreatDoor
namespace Go.Proofs.YtmggcfijlpldpaaGreatDoor
open Go Mb
theorem mod_in (x:Int) {n:Int} (h:1 ≤ n∧n ≤ 100):0 ≤ (IntKind.i64.wrap (x.tmod n + n)).tmod n∧(IntKind.i64.wrap (x.tmod n + n)).tmod n < n:=by
  have h1:=Int.tmod_lt_of_pos x (show (0:Int) < n by omega)
  have h2:-n < x.tmod n:=by
    have:=Int.tmod_lt_of_pos (-x) (show (0:Int) < n by omega)
    rw [Int.neg_tmod] at this
    omega
  rw [bO (by omega) (by omega)]
  exact ⟨Int.tmod_nonneg _ (by omega),Int.tmod_lt_of_pos _ (by omega)⟩
end Go.Proofs.YtmggcfijlpldpaaGreatDoor
namespace Go.Proofs.YtmggcfijlpldpaaGreatDoor
open Go Mb
def KK.pick (k:KK) (p:rc):Bool × KK:=if p.fKind = 1 then KK.begin_ k p.fCore p.fEnv p.fCall else if p.fKind = 2 then KK.step k p.fCore else if p.fKind = 3 then KK.post k p.fCore else if p.fKind = 4 then KK.evict k p.fCore p.fSet p.fWay else (false,k)
theorem sp_Do (x:Ptr) (k:KK) (p:rc) (hn:k.now < 2 ^ 36):Sp Tryz.prog nv [pv x,.agg p.C.toArray] az [da x k] (fun r=>pa_ (r = (KK.pick k p).1) [da x (KK.pick k p).2]):=by
  intro h st
  refine sim_messuagelaw16_Do _ _ ?_
  unfold rJ
  refine aX (fun c=>?_) (fun c=>?_)
  · have c':p.fKind = 1:=by simpa using c
    have e:KK.pick k p = KK.begin_ k p.fCore p.fEnv p.fCall:=by unfold KK.pick; rw [if_pos c']
    rw [e]
    exact bQ (i:=0) (sp_kern_Begin x k p.fCore p.fEnv p.fCall (by omega)) rfl st fun r h1 hr s1=>aW hr s1
  · have c1:p.fKind ≠ 1:=by simpa using c
    refine aX (fun c=>?_) (fun c=>?_)
    · have c':p.fKind = 2:=by simpa using c
      have e:KK.pick k p = KK.step k p.fCore:=by unfold KK.pick; rw [if_neg c1,if_pos c']
      rw [e]
      exact bQ (i:=0) (sp_kern_Step x k p.fCore (by omega)) rfl st fun r h1 hr s1=>aW hr s1
    · have c2:p.fKind ≠ 2:=by simpa using c
      refine aX (fun c=>?_) (fun c=>?_)
      · have c':p.fKind = 3:=by simpa using c
        have e:KK.pick k p = KK.post k p.fCore:=by unfold KK.pick; rw [if_neg c1,if_neg c2,if_pos c']
        rw [e]
        exact bQ (i:=0) (sp_kern_Post x k p.fCore (by omega)) rfl st fun r h1 hr s1=>aW hr s1
      · have c3:p.fKind ≠ 3:=by simpa using c
        refine aX (fun c=>?_) (fun c=>?_)
        · have c':p.fKind = 4:=by simpa using c
          have e:KK.pick k p = KK.evict k p.fCore p.fSet p.fWay:=by unfold KK.pick; rw [if_neg c1,if_neg c2,if_neg c3,if_pos c']
          rw [e]
          exact bQ (i:=0) (sp_kern_Evict x k p.fCore p.fSet p.fWay (by omega)) rfl st fun r h1 hr s1=>aW hr s1
        · have c4:p.fKind ≠ 4:=by simpa using c
          have e:KK.pick k p = (false,k):=by unfold KK.pick; rw [if_neg c1,if_neg c2,if_neg c3,if_neg c4]
          rw [e]
          exact aW rfl st
theorem IE.pick {k:KK} (A:IE k) (hn:k.now < 2 ^ 40) {p:rc} (cw:Cw p.fCall):IE (KK.pick k p).2:=by
  unfold KK.pick
  split
  · exact A.begin hn _ _ cw
  · split
    · exact A.step hn _
    · split
      · exact A.post hn _
      · split
        · exact A.evict hn _ _ _
        · exact A
structure Picked (p:rc) (k k':KK):Prop where
  len:k'.calls.length = k.calls.length
  s:k'.p.s = k.p.s
  lo:k.now ≤ k'.now
  now:k'.now ≤ k.now + 1
  calls:∀ (d:Nat) y,k'.calls[d]? = some (some y)→(∃ x,k.calls[d]? = some (some x)∧(x.fc.e0 ≠ 9→y.fc = x.fc))∨(y.fc = p.fCall∧p.fKind = 1)
theorem step_s {k:KK} (c:Int):(KK.step k c).2.p.s = k.p.s:=by
  unfold KK.step
  split
  · rfl
  · split
    · rfl
    · rename_i x _
      unfold KK.work
      split
      · exact (access_keep (KK.tick k) c x).2.2.1
      · split
        · rfl
        · split
          · rfl
          · split
            · exact do_s _ _ _
            · exact do_s _ _ _
theorem pick_picked {k:KK} (A:IE k) (hn:k.now < 2 ^ 38) (p:rc):Picked p k (KK.pick k p).2:=by
  have ht:(KK.tick k).now = k.now + 1:=tick_now A.inv.ok (by omega)
  have hw:IntKind.i64.wrap (k.now + 1) = k.now + 1:=ht
  have same:∀ (d:Nat) y,k.calls[d]? = some (some y)→(∃ x,k.calls[d]? = some (some x)∧(x.fc.e0 ≠ 9→y.fc = x.fc))∨(y.fc = p.fCall∧p.fKind = 1):=fun d y h=>.inl ⟨y,h,fun _=>rfl⟩
  unfold KK.pick
  split
  · rename_i hk
    unfold KK.begin_
    split
    · exact ⟨rfl,rfl,Int.le_refl _,by show k.now ≤ k.now + 1; omega,same⟩
    · refine ⟨by simp,rfl,by show k.now ≤ IntKind.i64.wrap (k.now + 1); omega,by show IntKind.i64.wrap (k.now + 1) ≤ _; omega,fun d y h=>?_⟩
      have h':(k.calls.set p.fCore.toNat (some ⟨k.events.length,p.fEnv,p.fCall,false,0⟩))[d]? = some (some y):=h
      rw [List.getElem?_set] at h'
      split at h'
      · split at h'
        · simp only [Option.some.injEq] at h'
          rw [← h']; exact .inr ⟨rfl,hk⟩
        · cases h'
      · exact same d y h'
  · split
    · by_cases hb:KK.busy k p.fCore = true
      · obtain ⟨hi,x,hx⟩:=busy_is hb
        obtain ⟨n,e,hlt⟩:=qC hi
        rw [e] at hx ⊢
        have hcx:=kcall_nat hx
        obtain ⟨S,s1,_⟩:=step_stepped A.inv hlt hcx
        have hnn:=KK.step_now A.inv.ok.n0 hn (n:Int)
        refine ⟨S.len,step_s _,hnn.1,hnn.2,fun d y h=>?_⟩
        by_cases ed:d = n
        · subst ed
          refine .inl ⟨x,hcx,fun h9=>?_⟩
          rcases s1 h9 with g | ⟨z,g1,_,g3⟩
          · rw [g] at h; cases h
          · rw [g1] at h; cases h; exact g3
        · rw [S.other d ed] at h; exact same d y h
      · have e:KK.step k p.fCore = (false,k):=by unfold KK.step; rw [if_pos (by simpa using hb)]
        rw [e]
        exact ⟨rfl,rfl,Int.le_refl _,by show k.now ≤ k.now + 1; omega,same⟩
    · split
      · have hnn:=KK.post_now A.inv.ok.n0 hn p.fCore
        have e:(KK.post k p.fCore).2.calls = k.calls∧(KK.post k p.fCore).2.p.s = k.p.s:=by
          unfold KK.post
          split
          · exact ⟨rfl,rfl⟩
          · split <;> exact ⟨rfl,rfl⟩
        exact ⟨by rw [e.1],e.2,hnn.1,hnn.2,by rw [e.1]; exact same⟩
      · split
        · unfold KK.evict
          split
          · exact ⟨rfl,rfl,Int.le_refl _,by show k.now ≤ k.now + 1; omega,same⟩
          · split
            · exact ⟨rfl,rfl,Int.le_refl _,by show k.now ≤ k.now + 1; omega,same⟩
            · exact ⟨rfl,rfl,by show k.now ≤ IntKind.i64.wrap (k.now + 1); omega,by show IntKind.i64.wrap (k.now + 1) ≤ _; omega,same⟩
        · exact ⟨rfl,rfl,Int.le_refl _,by show k.now ≤ k.now + 1; omega,same⟩
theorem size_in (z:ir):PK.sized (bT z) = true∧1 ≤ (bT z).fCores∧(bT z).fCores ≤ 4∧1 ≤ (bT z).fEnvs∧(bT z).fEnvs ≤ 3:=by
  have h1:=mod_in z.fCores (n:=4) (by decide)
  have h2:=mod_in z.fEnvs (n:=3) (by decide)
  have h3:=mod_in z.fFrames (n:=6) (by decide)
  rw [fM]
  unfold bT
  dsimp only
  generalize (IntKind.i64.wrap (z.fCores.tmod 4 + 4)).tmod 4 = a at *
  generalize (IntKind.i64.wrap (z.fEnvs.tmod 3 + 3)).tmod 3 = b at *
  generalize (IntKind.i64.wrap (z.fFrames.tmod 6 + 6)).tmod 6 = c at *
  rw [bO (n:=1 + a) (by omega) (by omega),bO (n:=1 + b) (by omega) (by omega),bO (n:=1 + c) (by omega) (by omega)]
  omega
theorem cw_of {p:rc} (h:rd [.i .i64,.i .i64,.i .i64,.i .u64,.i .u64,.i .u64,.i .u64,.i .u64,.i .i64,.i .i64] (ch.C p)):Cw p.fCall:=by
  obtain ⟨_,_,_,⟨n0,e0,w0⟩,⟨n1,e1,w1⟩,⟨n2,e2,w2⟩,⟨n3,e3,w3⟩,⟨n4,e4,w4⟩,_⟩:=h
  injection e0 with _ e0
  injection e1 with _ e1
  injection e2 with _ e2
  injection e3 with _ e3
  injection e4 with _ e4
  exact ⟨by rw [e0]; exact (wf_u w0).1,by rw [e1]; exact (wf_u w1).1,by rw [e2]; exact (wf_u w2).1,by rw [e3]; exact (wf_u w3).1,by rw [e4]; exact (wf_u w4).1⟩
end Go.Proofs.YtmggcfijlpldpaaGreatDoor
namespace Go.Proofs.YtmggcfijlpldpaaGreatDoor
open Go Mb
variable {ET:Nat} {EF:Nat × Nat}
structure Behind (z:ir) (n:Nat) (k:KK):Prop where
  ie:IE k
  s:k.p.s = z
  now:k.now ≤ n
theorem Behind.pick {z:ir} {n:Nat} {k:KK} (B:Behind z n k) (hn:n < 1000) {p:rc} (cw:Cw p.fCall):Behind z (n + 1) (KK.pick k p).2:=by
  have hk:k.now < 2 ^ 38:=by have:=B.now; omega
  have P:=pick_picked B.ie hk p
  exact ⟨B.ie.pick (by omega) cw,P.s.trans B.s,by have:=P.now; have:=B.now; omega⟩
theorem behind_new {z:ir} (h:PK.sized z = true):Behind z 0 (KK.new z):=⟨ie_new h,rfl,Int.le_refl _⟩
theorem Behind.lens {z:ir} {n:Nat} {k:KK} (B:Behind z n k):(k.calls.length:Int) = z.fCores∧(k.epochs.1.length:Int) ≤ n∧(k.events.length:Int) ≤ n:=by
  have h1:=B.ie.inv.ok.cl
  have h2:=B.ie.inv.ok.epn
  have h3:=B.ie.inv.ok.evn
  have:=B.now
  rw [← B.s]
  have h5:=fM.1 B.ie.inv.ok.p.sz
  omega
def Awake (k:KK):Prop:=∀ (d:Nat) x,k.calls[d]? = some (some x)→x.fc.e0 ≠ 9
theorem Awake.pick {k:KK} (W:Awake k) (A:IE k) (hn:k.now < 2 ^ 38) {p:rc} (h:p.fKind ≠ 1∨p.fCall.e0 ≠ 9):Awake (KK.pick k p).2:=by
  intro d y hy
  rcases (pick_picked A hn p).calls d y hy with ⟨x,hx,e⟩ | ⟨e,hk⟩
  · have h9:=W d x hx
    rw [e h9]; exact h9
  · rw [e]
    rcases h with h | h
    · exact absurd hk h
    · exact h
end Go.Proofs.YtmggcfijlpldpaaGreatDoor
namespace Go.Proofs.YtmggcfijlpldpaaGreatDoor
open Go Mb
variable {ET:Nat} {EF:Nat × Nat}
namespace Twin
def sumv:Nat→List bV→Nat
  | 0,_=>0
  | m + 1,es=>sumv m es + (view m es).length
theorem view_cons (env:Int) (e:bV) (es:List bV):(view env (e::es)).length = (view env es).length + (if e.fEnv = env∧e.fEnd > 0 then 1 else 0):=by
  rw [view]
  split <;> simp
theorem sumv_cons (e:bV) (es:List bV):∀ m:Nat,sumv m (e::es) = sumv m es + (if 0 ≤ e.fEnv∧e.fEnv < m∧e.fEnd > 0 then 1 else 0)
  | 0=>by rw [sumv,sumv,if_neg (by omega)]
  | m + 1=>by
    rw [sumv,sumv,sumv_cons e es m,view_cons]
    split <;> split <;> split <;> omega
theorem sumv_done (m:Nat):∀ (es:List bV) (i:Int),(∀ e ∈ es,0 ≤ e.fEnv∧e.fEnv < m∧0 ≤ e.fEnd)→sumv m es = (Hist.placesFrom (fun e=>e.fEnd != 0) es i).length
  | [],_,_=>by
    rw [Hist.placesFrom]
    induction m with
    | zero=>rfl
    | succ m ih=>rw [sumv,ih (fun e h=>by cases h)]; rfl
  | e::es,i,h=>by
    have h0:=h e List.mem_cons_self
    rw [sumv_cons,Hist.placesFrom,sumv_done m es (i + 1) (fun e he=>h e (List.mem_cons_of_mem _ he))]
    by_cases hz:e.fEnd = 0
    · rw [if_neg (by omega),if_neg (by simp [hz])]; rfl
    · rw [if_pos (by omega),if_pos (by simpa using hz)]; rfl
theorem view_out (env:Int):∀ es:List bV,(∀ e ∈ es,e.fEnv ≠ env)→view env es = []
  | [],_=>rfl
  | e::es,h=>by rw [view,if_neg (fun x=>h e List.mem_cons_self x.1)]; exact view_out env es fun e he=>h e (List.mem_cons_of_mem _ he)
theorem view_le (env:Int):∀ es:List bV,(view env es).length ≤ es.length
  | []=>Nat.le_refl _
  | e::es=>by
    have:=view_le env es
    rw [view_cons,List.length_cons]
    split <;> omega
theorem sumv_le (es:List bV):∀ m:Nat,sumv m es ≤ m * es.length
  | 0=>by rw [sumv]; omega
  | m + 1=>by
    have h1:=sumv_le es m
    have h2:=view_le m es
    rw [sumv,Nat.succ_mul]
    omega
theorem same_self:∀ l:List eS,same l l = true
  | []=>rfl
  | a::l=>by rw [same,same_self l]; simp [ac.eqb]
end Twin
theorem sp_TwinSelf (z:ir) (s:Sl) (ps:List rc) (env:Int) (hf:∀ p ∈ ps,Cw p.fCall):Sp Tryz.prog mU [.agg z.C.toArray,sv s,.int .i64 env] az [etB ET EF,vK s ps] (fun r=>pa_ (r = true) [etB ET EF,vK s ps]):=by
  intro h st
  refine sU _ _ _ ?_
  unfold mv
  refine bQ (i:=0) sp_begun16 rfl st fun r h1 hr s1=>?_
  subst hr
  refine dF rfl ?_
  refine bQ (i:=1) (sp_Cut s ps 100 (by decide) (by decide)) rfl s1 fun y h2 hback s2=>?_
  have e100:(100:Int).toNat = 100:=rfl
  rw [e100] at hback
  rw [e100] at s2
  have hlen:(ps.take 100).length ≤ 100:=by rw [List.length_take]; exact Nat.min_le_left _ _
  have hfq:∀ p ∈ ps.take 100,Cw p.fCall:=fun p hp=>hf p (List.mem_of_mem_take hp)
  generalize ps.take 100 = qs at hback s2 hlen hfq
  have s2:aG [etB ET EF,vK y qs] h2:=s2
  have hl:=(bX (j:=1) s2 rfl).1
  obtain ⟨hs,_,_,d1,d4⟩:=size_in z
  generalize hwz:bT z = w at hs d1 d4 ⊢
  refine mq (sp_kern_New w hs) s2 fun x h3 s3=>?_
  have fin:∀ {r:Bool} {h':Hp},r = true→aG [etB ET EF,vK y qs] h'→pa_ (r = true) [etB ET EF,vK s ps] h':=fun hr s'=>aW hr (star_imp (i:=1) rfl hback s')
  refine Lp.intro (fun (i:Int) h=>∃ (n:Nat) (k:KK),i = n∧n ≤ qs.length∧Behind w n k∧aG [da x k,etB ET EF,vK y qs] h) (fun (i:Int) _=>qs.length - i.toNat) ⟨0,_,rfl,Nat.zero_le _,behind_new hs,s3⟩ ?_
  rintro i h4 ⟨n,k,rfl,hn,B,s4⟩
  have hk:k.now < 2 ^ 30:=by have:=B.now; omega
  unfold iF
  refine aX (fun c=>?_) (fun c=>?_)
  · have hlt:n < qs.length:=by rw [hl] at c; simpa using c
    have hw:IntKind.i64.wrap ((n:Int) + 1) = ((n + 1:Nat):Int):=by rw [bO (by omega) (by omega)]; rfl
    refine dy s4 (j:=2) rfl (by omega) (by omega) fun q hq=>?_
    refine eo (j:=2) (i:=n) (k:=0) qs[n] pick_len s4 rfl hq rfl (aE hlt) (by simp) ?_
    refine bQ (i:=0) (sp_Do x k qs[n] (by omega)) rfl s4 fun r h5 hr s5=>?_
    rw [hw]
    exact ⟨⟨n + 1,_,rfl,hlt,B.pick (by omega) (hfq _ (List.getElem_mem hlt)),s5⟩,by simp; omega⟩
  · refine xC (i:=0) (sP x k (by omega)) rfl s4 fun v h6 s6=>?_
    have hev:k.events.length ≤ 100:=by have:=B.lens; omega
    have hes:∀ e ∈ k.events,0 ≤ e.fEnv∧e.fEnv < w.fEnvs∧0 ≤ e.fEnd:=by
      intro e he
      obtain ⟨i,hi⟩:=List.getElem?_of_mem he
      have o:=B.ie.ev.one i e hi
      have h1:=o.v1
      rw [B.s] at h1
      refine ⟨o.v0,h1,?_⟩
      have:=o.b0
      rcases o.st with s | s
      · rw [s.2]; exact Int.le_refl _
      · omega
    have s6:aG [vE v k.events,etB ET EF,vK y qs] h6:=bZ (l:=[_]) (ba [1] s6 rfl)
    generalize k.events = es at hev hes s6
    obtain ⟨m,hm⟩:∃ m:Nat,w.fEnvs = m:=⟨w.fEnvs.toNat,by omega⟩
    have hb:es.length < 2 ^ 38:=by omega
    refine Lp.intro (fun (i:Int × Int) h=>∃ a:Nat,i = ((Twin.sumv a es:Int),(a:Int))∧a ≤ m∧aG [vE v es,etB ET EF,vK y qs] h) (fun (i:Int × Int) _=>m - i.2.toNat) ⟨0,rfl,Nat.zero_le _,s6⟩ ?_
    rintro i h7 ⟨a,rfl,ha,s7⟩
    unfold iE
    rw [hwz,hm]
    have hsum:=Twin.sumv_le es a
    have hsum2:Twin.sumv a es ≤ 3 * 100:=Nat.le_trans hsum (Nat.mul_le_mul (by omega) hev)
    refine aX (fun c=>?_) (fun c=>?_)
    · have hlt:a < m:=by simpa using c
      have hvl:=Twin.view_le a es
      refine cK [0] (rest:=[_,_]) (lN v es a hb) s7 rfl fun r h8 s8=>?_
      have s8:=cL s8
      have hrl:=(bX (j:=0) s8 rfl).1
      have hw:IntKind.i64.wrap ((a:Int) + 1) = ((a + 1:Nat):Int):=by rw [bO (by omega) (by omega)]; rfl
      have hw2:IntKind.i64.wrap ((Twin.sumv a es:Int) + (r.len:Int)) = ((Twin.sumv (a + 1) es:Nat):Int):=by
        rw [hrl,bO (by omega) (by omega),Twin.sumv]; omega
      simp only
      rw [hw,hw2]
      exact ⟨⟨a + 1,rfl,hlt,bZ (l:=[_]) s8⟩,by simp; omega⟩
    · have ham:a = m:=by simp at c; omega
      subst ham
      have hdone:=Twin.sumv_done a es 0 (fun e he=>by have:=hes e he; omega)
      refine cK [0] (rest:=[_,_]) (lN v es env hb) s7 rfl fun r h8 s8=>?_
      have s8:=cL s8
      refine cK [1] (rest:=[_,_,_]) (lN v es env hb) s8 rfl fun r2 h9 s9=>?_
      have s9:=cL s9
      have hvl:=Twin.view_le env es
      refine cK [2,0] (rest:=[_,_,_]) (sp_twin_Same r r2 (Twin.view env es) (Twin.view env es) (by omega)) s9 rfl fun r3 h10 x10=>?_
      obtain ⟨e3,s10⟩:=bo.1 x10
      rw [Twin.same_self] at e3
      subst e3
      refine dO rfl ?_
      refine cK [2] (rest:=[_,_,_,_]) (sp_hist_Done v es hb) s10 rfl fun r4 h11 s11=>?_
      have s11:=cL s11
      have hdl:=(bX (j:=0) s11 rfl).1
      refine dO (by simp only; rw [hdl,hdone]; simp [Hist.done,Hist.places]) ?_
      refine cK [1] (rest:=[_,_,_,_,_]) (lN v es (-1) hb) s11 rfl fun r5 h12 s12=>?_
      have s12:=cL s12
      have h5:=(bX (j:=0) s12 rfl).1
      rw [Twin.view_out (-1) es (fun e he=>by have:=hes e he; omega)] at h5
      refine dO (by rw [h5]; rfl) ?_
      refine cK [1] (rest:=[_,_,_,_,_,_]) (lN v es a hb) s12 rfl fun r6 h13 s13=>?_
      have s13:=cL s13
      have h6:=(bX (j:=0) s13 rfl).1
      rw [Twin.view_out a es (fun e he=>by have:=hes e he; omega)] at h6
      exact fin (by rw [h6]; rfl) (bZ (l:=[_,_,_,_,_,_]) s13)
end Go.Proofs.YtmggcfijlpldpaaGreatDoor
namespace Go.Proofs.YtmggcfijlpldpaaGreatDoor
open Go Mb Go.ChangeShapes Go.WideShapes Go.RowKit
theorem decTwinSelf27 (cs:List Value) (h:rd [.i .i64,.i .i64,.i .i64] cs):∃ x:{x:ax // rd [.i .i64,.i .i64,.i .i64] (ax.C x)},ax.C x.1 = cs:=by
  have h0:=h
  obtain ⟨a0,r0,rfl,_,h⟩:=wc h
  obtain ⟨a1,r1,rfl,_,h⟩:=wc h
  obtain ⟨a2,r2,rfl,_,h⟩:=wc h
  obtain rfl:=fit_nil h
  exact ⟨⟨⟨a0,a1,a2⟩,h0⟩,rfl⟩
theorem decTwinSelf63 (cs:List Value) (h:rd [.i .i64,.i .i64,.i .i64,.i .u64,.i .u64,.i .u64,.i .u64,.i .u64,.i .i64,.i .i64] cs):∃ x:{x:ch // rd [.i .i64,.i .i64,.i .i64,.i .u64,.i .u64,.i .u64,.i .u64,.i .u64,.i .i64,.i .i64] (ch.C x)},ch.C x.1 = cs:=by
  have h0:=h
  obtain ⟨a0,r0,rfl,_,h⟩:=wc h
  obtain ⟨a1,r1,rfl,_,h⟩:=wc h
  obtain ⟨a2,r2,rfl,_,h⟩:=wc h
  obtain ⟨a3,r3,rfl,_,h⟩:=wc h
  obtain ⟨a4,r4,rfl,_,h⟩:=wc h
  obtain ⟨a5,r5,rfl,_,h⟩:=wc h
  obtain ⟨a6,r6,rfl,_,h⟩:=wc h
  obtain ⟨a7,r7,rfl,_,h⟩:=wc h
  obtain ⟨a8,r8,rfl,_,h⟩:=wc h
  obtain ⟨a9,r9,rfl,_,h⟩:=wc h
  obtain rfl:=fit_nil h
  exact ⟨⟨⟨a0,a1,a2,⟨a3,a4,a5,a6,a7⟩,a8,a9⟩,h0⟩,rfl⟩
set_option maxRecDepth 100000 in
theorem lifted_10 (os:Os) (started:os.Started) (H:Type) (enc:TypeId × Value→H) :
    ReturnsInHanded {} Tryz.checked os 10 .any (fun w args=>(Rows.twinSelfSpec.pre enc Tryz.prog Tryz.f10 [] false w args∧laidMetH Tryz.prog laid w)∧sizedMet enc Tryz.prog Tryz.f10 (OpenSpec.ofChange Rows.twinSelfSpec) false w args)
      (Rows.twinSelfSpec.post enc Tryz.prog Tryz.f10 false true false false):=by
  refine returnsInHanded_of_change_and (C:=Tryz.checked) (X:=fun w _=>laidMetH Tryz.prog laid w) (fun _ _ _ hh h=>h.of_heap hh) Tryz.own started (by kernel_rfl) Tryz.func10
    (ChangeSpec.witness_at (enc:=enc) (C:=Tryz.checked) (os:=os) (X:=fun w _=>laidMetH Tryz.prog laid w) false (laidWorld os) #[.agg #[.int .i64 0,.int .i64 0,.int .i64 0],.slice none 0 0,.int .i64 0] 8 rfl (by kernel_rfl) (by kernel_rfl) (by kernel_rfl) (by kernel_rfl) (by kernel_rfl) (laidWorld_met os _)) ?_
  intro W base args ds gs before hval0 hW _ _ hL _
  have hval:∀ (j:Nat) t v,Tryz.f10.params[j]? = some t→args[j]? = some v→Value.okWide Tryz.prog W .any base t v:=hval0
  have hW':=hW
  obtain ⟨p,q,hA0,hV0,rfl,hfz,hnd⟩:=hW
  have hA:DataW.TrodAll enc Tryz.prog W 0 (fun _=>true) true Tryz.f10.params.toList args.toList ds p:=hA0
  have hV:DataW.TrodVars enc Tryz.prog W (fun _=>true) [] gs q:=hV0
  rw [Tryz.params10] at hA hval
  have hst:=hA
  obtain ⟨T,F,hb⟩:=block_of_laid hL
  obtain ⟨rfl,rfl⟩:gs = []∧q = []:=by
    cases gs with
    | nil=>exact ⟨rfl,hV⟩
    | cons g r=>exact absurd hV (by intro h; cases h)
  obtain ⟨v0,w0,d0,e0,p0,q0,hx0,rfl,rfl,h0,hA0⟩:=trodAll_cons hA
  obtain ⟨v1,w1,d1,e1,p1,q1,hx1,rfl,rfl,h1,hA1⟩:=trodAll_cons hA0
  obtain ⟨v2,w2,d2,e2,p2,q2,hx2,rfl,rfl,h2,hA2⟩:=trodAll_cons hA1
  obtain ⟨hy,rfl,rfl⟩:=trodAll_nil hA2
  subst hy
  subst hx2
  subst hx1
  obtain rfl:args = #[v0,v1,v2]:=by apply Array.ext'; exact hx0
  obtain ⟨c0,rfl,hc0⟩:=open_struct (ks:=[.i .i64,.i .i64,.i .i64]) Tryz.underlying27 (by kernel_rfl) (hval 0 27 v0 rfl rfl) h0
  obtain ⟨⟨z0,hf0⟩,rfl⟩:=decTwinSelf27 _ hc0
  obtain ⟨s1,ys1,rfl,A1⟩:=open_arg (m:=10) (ks:=[.i .i64,.i .i64,.i .i64,.i .u64,.i .u64,.i .u64,.i .u64,.i .u64,.i .i64,.i .i64]) (enc':=fun x:{x:ch // rd [.i .i64,.i .i64,.i .i64,.i .u64,.i .u64,.i .u64,.i .u64,.i .u64,.i .i64,.i .i64] (ch.C x)}=>ch.C x.1) Tryz.underlying59 (by kernel_rfl) (by kernel_rfl) (by decide) decTwinSelf63 (hval 1 59 v1 rfl rfl) h1 (fun b o hb=>hfz b o (by simp [hb])) hb no_iface
  obtain ⟨A1,hf1⟩:=A1.sub
  generalize ys1.map (·.1) = xs1 at A1 hf1
  obtain ⟨n2,rfl,rfl,rfl,hw2⟩:=open_int Tryz.underlying3 (hval 2 3 v2 rfl rfl) h2
  refine (run_spV A1 (ET:=T) (EF:=F) (sp_TwinSelf z0 s1 xs1 n2 (fun p hp=>cw_of (hf1 p hp))) hb).mono fun e W' ⟨he,hk⟩=>?_
  subst he
  refine ⟨_,rfl,_,_,_,[],(p0++(p1++(([]:List MemPlace)++[]))),[],hW',?_,?_,?_,keptBut_same hk.os hk.out hk.heap,fun h=>by cases h⟩
  · exact trodAll_mk1 (shut_bool Tryz.underlying4 true)
  · exact same_post (by kernel_rfl) (by kernel_rfl) hst (fun p hp=>hW'.lt p (List.mem_append_left _ hp)) hk (fun p hp=>by simpa using hW'.lt p (List.mem_append_left _ hp))
  · rfl
end Go.Proofs.YtmggcfijlpldpaaGreatDoor
namespace Go.Proofs.YtmggcfijlpldpaaGreatDoor
open Go Mb Go.ChangeShapes Go.WideShapes Go.RowKit
theorem jf0:Tryz.pinned.checked.prog.funcNamed Rows.twinSelfRow.func = some 10:=by kernel_rfl
theorem jf1:(Rows.twinSelfRow.wf (OpenSpec.ofChange Rows.twinSelfSpec) && laidOutB Tryz.pinned.checked.prog && mapsRowed Tryz.pinned.checked.prog) = true:=by kernel_rfl
theorem jf2:(Tryz.f10.params.all (Tryz.pinned.checked.prog.readableRec ·) && namedTie Tryz.pinned.checked.prog Rows.twinSelfRow.named Rows.twinSelfSpec.vars && (Rows.twinSelfRow.stops == []) && (Tryz.pinned.checked.prog.stops == []) && (Rows.twinSelfRow.knobs == []) && (Tryz.pinned.checked.prog.stopKnobs == [])) = true:=by kernel_rfl
theorem jf3:(Rows.twinSelfRow.inPlace == Tryz.pinned.checked.prog.inPlace 10) = true:=by kernel_rfl
theorem jf4:(Rows.twinSelfRow.unfollowed == Tryz.pinned.checked.prog.unfollowed 10) = true:=by kernel_rfl
theorem jf5:(Rows.twinSelfRow.recurses == Tryz.pinned.checked.prog.recurses 10) = true:=by kernel_rfl
theorem jf6:(Rows.twinSelfRow.named == Tryz.pinned.checked.prog.varsNamed 10) = true:=by kernel_rfl
theorem jf7:((Rows.twinSelfRow.maps == (Tryz.f10.params.toList++Rows.twinSelfSpec.plain.varTypes Tryz.pinned.checked.prog).any (Tryz.pinned.checked.prog.mapsRec ·)) && (Rows.twinSelfRow.ifaces == (Tryz.f10.params.toList++Rows.twinSelfSpec.plain.varTypes Tryz.pinned.checked.prog).any (Tryz.pinned.checked.prog.ifacesRec ·)) && (Rows.twinSelfRow.mapsOut == Tryz.pinned.checked.prog.mapsAmong Tryz.f10.resultTypes.toList) &&
  (Rows.twinSelfRow.loops == (Tryz.f10.params.toList++Rows.twinSelfSpec.plain.varTypes Tryz.pinned.checked.prog).any (Tryz.pinned.checked.prog.loopsFrom ·)) && (Rows.twinSelfRow.wideKeys == (Tryz.f10.params.toList++Rows.twinSelfSpec.plain.varTypes Tryz.pinned.checked.prog++Tryz.f10.resultTypes.toList).any (Tryz.pinned.checked.prog.wideKeysFrom ·)) &&
  Rows.twinSelfSpec.vars.all (Tryz.pinned.checked.prog.varReadable ·) && Tryz.f10.resultTypes.all (fun t=>Tryz.pinned.checked.prog.readableRec t && decide (t < Tryz.pinned.checked.prog.types.size)) && (Rows.twinSelfRow.ifacesOut == Tryz.f10.resultTypes.toList.any (Tryz.pinned.checked.prog.ifacesRec ·)) && (Rows.twinSelfRow.loopsOut == Tryz.f10.resultTypes.toList.any (Tryz.pinned.checked.prog.loopsFrom ·))) = true:=by kernel_rfl
theorem jf8:(Rows.twinSelfRow.plainKeys == Tryz.pinned.checked.prog.plainKeys) = true:=by kernel_rfl
theorem jf9:(Rows.twinSelfRow.shortTexts.isNone && Tryz.pinned.checked.prog.stopsHeard && Tryz.pinned.checked.prog.mayEnter && (Rows.twinSelfRow.lifted == Tryz.pinned.checked.prog.liftsFinal) && (Tryz.pinned.checked.prog.make == some Rows.twinSelfRow.make) && kindsB Tryz.pinned.checked.prog Tryz.f10 Rows.twinSelfRow && (Rows.twinSelfRow.pinned == Rows.twinSelfRow.pinnedBy) &&
  (Rows.twinSelfRow.veiled == (Tryz.f10.params.toList++Rows.twinSelfSpec.plain.varTypes Tryz.pinned.checked.prog++Tryz.f10.resultTypes.toList).any (Tryz.pinned.checked.prog.veiledRec ·)) && Rows.twinSelfRow.veiledFits Tryz.pinned.checked.prog Tryz.f10.params.toList (Tryz.f10.params.toList++Rows.twinSelfSpec.plain.varTypes Tryz.pinned.checked.prog++Tryz.f10.resultTypes.toList)) = true:=by kernel_rfl
theorem said_10:Rows.TwinSelfSaid :=
  OpenClaim.holds_of_wide 10 Tryz.f10 rfl rfl rfl rfl rfl rfl rfl ⟨rfl,rfl,rfl,rfl,rfl⟩ rfl rfl rfl rfl rfl jf0 Tryz.func10 (joined_split jf1 jf2 jf3 jf4 jf5 jf6 jf7 jf8 jf9)
    (of_decide_eq_true (by kernel_rfl)) (by unfold Func.isWrapper; rw [if_neg (of_decide_eq_false (by kernel_rfl))]; exact ⟨rfl,rfl⟩)
    (fun os started H enc _=>lifted_10 os started H enc)
theorem twinSelf_holds:Rows.TwinSelfCardSaid :=
  Claim7.holds_tied_plain_at .later [] [.handle] true (true, "0a18a80e28d285d70557e301bc4d2565b35b6c3c507dca02213e4d1d6624e7b5") true
    said_10 (fun _ h=>by cases h) (by kernel_rfl) (fun _ h=>by cases h) twinSelf_row_tie rfl ⟨rfl,rfl⟩ (by kernel_rfl) rfl
    (fun f fn hf hfn=>by
      obtain rfl:f = 10:=Option.some.inj ((show Tryz.prog.funcNamed "messuage/messuagelaw16.TwinSelf" = some 10 by kernel_rfl).symm.trans hf) |>.symm
      obtain rfl:fn = Tryz.f10:=(Option.some.inj (Tryz.func10.symm.trans hfn)).symm
      exact ⟨by kernel_rfl,fun j t ht=>by
        rw [Tryz.params10] at ht
        exact want_all (by kernel_rfl) (j:=j) (t:=t) ht⟩)
    (by kernel_rfl)
end Go.Proofs.YtmggcfijlpldpaaGreatDoor
