/- A part of what the last file proves. -/
import Derived.Test.YtgpbhjjajpbeeaaGreatDoorK06
set_option linter.all false
set_option maxHeartbeats 4000000
namespace Go.Zn
section
variable{Z:Zone}{P:Program}
theorem a08(hP:POK Z P)(em:Bool):∀(n:Nat)(t:TypeId)(v:Value),VP Z v->Sf Z P (fun _=>True) (Instr.checkKey em n t v):=by
 intro n
 induction n with
 | zero=>intro t v _;exact D7 _ trivial
 | succ n ih=>
  intro t v hv;unfold Instr.checkKey;refine Sf.bind (l5 t) fun d _=>?_;split
  ·refine Sf.bind (F6 _) fun i _=>?_;dsimp only;split
   ·split
    ·exact Sf.bind (R:=fun _=>True) (l8 hP _) fun _ _=>Sf.bind (a2R _) fun _ _=>Sf.bind (R:=fun _=>True) (l8 hP _) fun _ _=>ih _ _ hv.inIface.2
    ·exact Sf.bind (a2R _) fun _ _=>Sf.bind (R:=fun _=>True) (l8 hP _) fun _ _=>ih _ _ hv.inIface.2
   ·exact ih _ _ hv.inIface.2
  ·refine Sf.bind (R:=fun _=>True) (a6l (I:=fun _=>True) _ trivial fun i b _=>?_) fun r _=>Sf.pure trivial;exact Sf.bind (G6 _) fun _ _=>Sf.bind (V8 _ hv.inAgg _) fun u hu=>Sf.bind (ih _ _ hu) fun _ _=>Sf.pure trivial
  ·refine Sf.bind (R:=fun _=>True) (a2q (I:=fun _=>True) _ trivial fun f _ b _=>?_) fun r _=>Sf.pure trivial;exact J4 _ (Sf.bind (V8 _ hv.inAgg _) fun u hu=>Sf.bind (ih _ _ hu) fun _ _=>Sf.pure trivial) (Sf.pure trivial)
  ·exact Sf.pure trivial
  ·exact j3 _
  ·exact j3 _
  ·exact j3 _
  ·exact Sf.pure trivial
def b3b(Z:Zone)(l:List MapEntry):Prop:=∀e∈l,VP Z e.key/\VP Z e.val
theorem a9z(hP:POK Z P)(t:TypeId){k:Value}(hk:VP Z k):∀(l:List MapEntry)(i:Nat),b3b Z l->Sf Z P (fun o=>∀p,o=some p->VP Z p.2) (Instr.findAsking t k l i):=by
 intro l
 induction l with
 | nil=>intro i _;exact Sf.pure (by simp)
 | cons e l ih=>
  intro i hl;unfold Instr.findAsking;refine Sf.bind (a8J hP _ hk (hl e (by simp)).1) fun b _=>?_;split
  ·exact Sf.pure (by rintro _ ⟨⟩;exact(hl e (by simp)).2)
  ·exact ih _ fun x hx=>hl x (by simp[hx])
theorem b4Z(d:TypeDesc)(k:Value):∀(l:List MapEntry)(i:Nat)(r:Option (Nat×Value)),b3b Z l->Instr.findNow d k l i=some r->∀p,r=some p->VP Z p.2:=by
 intro l
 induction l with
 | nil=>intro i r _ h p hp;injection h with h;subst h;cases hp
 | cons e l ih=>
  intro i r hl h p hp;unfold Instr.findNow at h;split at h
  ·injection h with h;subst h;injection hp with hp;subst hp;exact(hl e (by simp)).2
  ·exact ih _ r (fun x hx=>hl x (by simp[hx])) h p hp
  ·cases h
theorem a2V(hP:POK Z P)(t:TypeId){k:Value}(hk:VP Z k){l:List MapEntry}(hl:b3b Z l):Sf Z P (fun o=>∀p,o=some p->VP Z p.2) (Instr.findKey t k l):=by
 unfold Instr.findKey;refine Sf.bind (l5 _) fun d _=>?_;split
 ·rename_i e;exact Sf.pure (b4Z d k l 0 _ hl e)
 ·exact a9z hP _ hk _ _ hl
theorem ObjP.inMap{es:Array MapEntry}{c:Nat}(h:ObjP Z (.map es c)):∀e∈es,VP Z e.key/\VP Z e.val:=by cases h;assumption
theorem VP.inMap{r:Nat}(h:VP Z (.map (some r))):Z.D r:=by cases h;assumption
theorem b7T(hP:POK Z P)(t:TypeId){x i:Value}(hx:VP Z x)(hi:VP Z i)(ok:Bool):Sf Z P (VP Z) (Instr.lookup t x i ok):=by
 unfold Instr.lookup;refine Sf.bind (l5 _) fun d _=>?_;split
 ·rename_i key elem;dsimp only;have fin:∀r:Value×Bool,VP Z r.1->VP Z (if ok then .tuple #[r.1,.bool r.2] else r.1):=fun r hr=>by
   split
   ·exact .tuple _ ((AP.nil.push hr).push (.bool _))
   ·exact hr
  generalize hf:(fun r:Value×Bool=>(if ok then Value.tuple #[r.1,.bool r.2] else r.1))=f;have fin:∀r:Value×Bool,VP Z r.1->VP Z (f r):=by subst hf;exact fin
  have e1:∀v o,(if ok=true then Value.tuple #[v,.bool o] else v)=f (v,o):=by subst hf;intro v o;rfl
  simp only[e1]
  cases hx with
  | mnil=>
   refine Sf.bind (R:=fun es:Array MapEntry=>b3b Z es.toList) (Sf.pure (by intro e he;simp at he)) fun es hes=>Sf.bind (a08 hP _ _ _ _ hi) fun _ _=>Sf.bind (a2V hP _ hi hes) fun o ho=>?_;split
   ·exact Sf.bind (R:=fun r:Value×Bool=>VP Z r.1) (Sf.pure (ho _ rfl)) fun r hr=>Sf.pure (fin r hr)
   ·exact Sf.bind (K9 hP _) fun z hz=>Sf.bind (R:=fun r:Value×Bool=>VP Z r.1) (Sf.pure hz) fun r hr=>Sf.pure (fin r hr)
  | map r hr=>
   refine Sf.bind (L9 hr) fun o ho=>?_;split
   ·refine Sf.bind (R:=fun es:Array MapEntry=>b3b Z es.toList) (Sf.pure fun e he=>ho.inMap e (by simpa using he)) fun es hes=>Sf.bind (a08 hP _ _ _ _ hi) fun _ _=>Sf.bind (a2V hP _ hi hes) fun o ho=>?_;split
    ·exact Sf.bind (R:=fun r:Value×Bool=>VP Z r.1) (Sf.pure (ho _ rfl)) fun r hr=>Sf.pure (fin r hr)
    ·exact Sf.bind (K9 hP _) fun z hz=>Sf.bind (R:=fun r:Value×Bool=>VP Z r.1) (Sf.pure hz) fun r hr=>Sf.pure (fin r hr)
   ·exact(trivial:HaltOK (.stuck _))
  | _=>exact(trivial:HaltOK (.stuck _))
 ·exact j3 _
theorem a7s{a b:Value}(ha:VP Z a)(hb:VP Z b):Sf Z P (VP Z) (Instr.keyThatStays a b):=by
 unfold Instr.keyThatStays;refine J4 _ (Sf.pure hb) (Sf.bind (H8 _) fun _ _=>Sf.pure ?_);split
 ·exact hb
 ·exact ha
theorem mem_modify{α:Type}{f:α->α}{i:Nat}{l:Array α}{x:α}(h:x∈l.modify i f):x∈l\/∃y∈l,x=f y:=by
 obtain⟨j,hj⟩:=Array.mem_iff_getElem?.1 h;rw[Array.getElem?_modify] at hj;split at hj
 ·obtain⟨y,hy,rfl⟩:=Option.map_eq_some_iff.1 hj;exact .inr ⟨y,Array.mem_of_getElem? hy,rfl⟩
 ·exact .inl (Array.mem_of_getElem? hj)
theorem a5A(hP:POK Z P)(t:TypeId){m k v:Value}(hm:VP Z m)(hk:VP Z k)(hv:VP Z v):Sf Z P (fun _=>True) (Instr.mapUpdate t m k v):=by
 unfold Instr.mapUpdate;refine Sf.bind (l5 _) fun d _=>?_;split
 ·split
  ·exact l8 hP _
  ·refine Sf.bind (L9 hm.inMap) fun o ho=>?_;split
   ·rename_i es clock;have hes:=ho.inMap;refine Sf.bind (a08 hP _ _ _ _ hk) fun _ _=>Sf.bind (a2V hP _ hk (fun e he=>hes e (by simpa using he))) fun o ho=>?_;split
    ·rename_i i w;refine Sf.bind (a7s (a:=((es[i]?).map (·.key)).getD k) ?_ hk) fun k' hk'=>?_
     ·cases e:es[i]? with
      | none=>exact hk
      | some x=>exact(hes x (Array.mem_of_getElem? e)).1
     ·refine R6 hm.inMap (.map _ _ fun e he=>?_);rcases mem_modify he with h|⟨y,hy,rfl⟩
      ·exact hes e h
      ·exact⟨hk',hv⟩
    ·refine R6 hm.inMap (.map _ _ fun e he=>?_);rcases Array.mem_push.1 he with h|rfl
     ·exact hes e h
     ·exact⟨hk,hv⟩
   ·exact j3 _
  ·exact j3 _
 ·exact j3 _
theorem b1C{α:Type}{i:Nat}{l:Array α}{x:α}(h:x∈l.eraseIdxIfInBounds i):x∈l:=by
 unfold Array.eraseIdxIfInBounds at h;split at h
 ·exact Array.mem_of_mem_eraseIdx h
 ·exact h
theorem b7U(hP:POK Z P)(ts:Array TypeId)(t:TypeId){args:Array Value}(h:AP Z args):Sf Z P (VP Z) (Builtin.delete_ ts t args):=by
 unfold Builtin.delete_;split
 ·rename_i mt m k e;have e:=Prod.mk.inj e;have e':=Prod.mk.inj e.2;have hm:VP Z m:=h.get e'.1;have hk:VP Z k:=h.get e'.2;refine Sf.bind (l5 _) fun d _=>?_;split
  ·split
   ·exact Sf.bind (a08 hP _ _ _ _ hk) fun _ _=>Sf.pure (.tuple _ AP.nil)
   ·refine Sf.bind (L9 hm.inMap) fun o ho=>?_;split
    ·rename_i es clock;have hes:=ho.inMap;refine Sf.bind (a08 hP _ _ _ _ hk) fun _ _=>Sf.bind (a2V hP _ hk (fun e he=>hes e (by simpa using he))) fun o ho=>?_;split
     ·exact Sf.bind (R6 hm.inMap (.map _ _ fun e he=>hes e (b1C he))) fun _ _=>Sf.pure (.tuple _ AP.nil)
     ·exact Sf.bind (R6 hm.inMap (.map _ _ hes)) fun _ _=>Sf.pure (.tuple _ AP.nil)
    ·exact j3 _
   ·exact j3 _
  ·exact j3 _
 ·exact j3 _
theorem c0J(t:TypeId){x:Value}(hx:VP Z x):Sf Z P (VP Z) (Instr.range t x):=by
 unfold Instr.range;refine Sf.bind (l5 _) fun d _=>?_;split
 ·exact Sf.bind (R:=ObjP Z) (Sf.pure (.stringIter _ _)) fun o ho=>Sf.bind (N7 ho) fun r hr=>Sf.pure (.ptr _ hr)
 ·exact Sf.bind (R:=ObjP Z) (Sf.pure (.iterNil _ _ _)) fun o ho=>Sf.bind (N7 ho) fun r hr=>Sf.pure (.ptr _ hr)
 ·refine Sf.bind (L9 hx.inMap) fun o ho=>?_;split
  ·exact Sf.bind (R:=ObjP Z) (Sf.pure (.iter _ _ _ _ hx.inMap)) fun o ho=>Sf.bind (N7 ho) fun r hr=>Sf.pure (.ptr _ hr)
  ·exact j3 _
 ·exact Sf.bind (R:=ObjP Z) (j3 _) fun o ho=>Sf.bind (N7 ho) fun r hr=>Sf.pure (.ptr _ hr)
theorem ObjP.inIter{m since:Nat}{seen:Array Nat}{st:Nat}(h:ObjP Z (.mapIter (some m) since seen st)):Z.D m:=by cases h;assumption
theorem c2f{x:Value}(hx:VP Z x)(s:Bool)(t:TypeId):Sf Z P (VP Z) (Instr.next x s t):=by
 unfold Instr.next;have over:Sf Z P (VP Z) (pure (.tuple #[.bool false]):Sem Value):=Sf.pure (.tuple _ (AP.nil.push (.bool _)));dsimp only;split
 ·rename_i r _;have hr:Z.D r:=hx.inPtr;refine Sf.bind (L9 hr) fun o ho=>?_;split
  ·split
   ·exact Sf.bind (R6 hr (.stringIter _ _)) fun _ _=>Sf.pure (.tuple _ (((AP.nil.push (.bool _)).push (.int _ _)).push (.int _ _)))
   ·exact over
  ·exact over
  ·rename_i m since seen last;have hm:=ho.inIter;refine Sf.bind (L9 hm) fun o ho=>?_;split
   ·rename_i es clock;have hes:=ho.inMap;split
    ·exact a2T _ _ trivial
    ·refine Sf.bind (H8 _) fun n _=>?_;split
     ·rename_i e he;have hmem:e∈es:=by
       have h1:=Array.mem_of_getElem? he;rcases Array.mem_append.1 h1 with h2|h2
       ·split at h2<;>simp at h2
       ·obtain⟨y,hy,hye⟩:=Array.mem_map.1 h2;injection hye with hye;subst hye;rcases Array.mem_append.1 hy with h3|h3
        ·exact(Array.mem_filter.1 (Array.mem_filter.1 h3).1).1
        ·exact(Array.mem_filter.1 (Array.mem_filter.1 h3).1).1
      exact Sf.bind (R6 hr (.iter _ _ _ _ hm)) fun _ _=>Sf.pure (.tuple _ (((AP.nil.push (.bool _)).push (hes e hmem).1).push (hes e hmem).2))
     ·exact over
     ·exact j3 _
   ·exact j3 _
  ·exact j3 _
 ·exact j3 _
theorem c0K{x:Value}(hx:VP Z x):Sf Z P (VP Z) (Instr.entry x):=by
 unfold Instr.entry;split
 ·refine Sf.bind (L9 hx.inPtr) fun o ho=>?_;split
  ·have hm:=ho.inIter;split
   ·refine Sf.bind (L9 hm) fun o ho=>?_;split
    ·have hes:=ho.inMap;refine J4 _ (a2T _ _ trivial) ?_
     ·split
      ·rename_i e he;have hmem:=Array.mem_of_find?_eq_some he;exact Sf.pure (.tuple _ ((AP.nil.push (hes _ hmem).1).push (hes _ hmem).2))
      ·exact D7 _ trivial
    ·exact j3 _
   ·exact j3 _
  ·exact j3 _
 ·exact j3 _
theorem a1J{l:Nat}(h:Z.D l):Sf Z P (c2G Z) (Instr.getLoop l):=by
 unfold Instr.getLoop;refine Sf.bind (L9 h) fun o ho=>?_;split
 ·cases ho;exact Sf.pure (by assumption)
 ·exact j3 _
theorem a9A(hP:POK Z P){l:Nat}(h:Z.D l):Sf Z P (fun _=>True) (Instr.beginRound l):=by
 unfold Instr.beginRound;refine Sf.bind (a1J h) fun r hr=>Sf.bind (R6 h (.loop _ ⟨hr.pending,hr.fn,hr.tmps,hr.assign,hr.body,hr.defers⟩)) fun _ _=>?_;split
 ·exact Sf.pure trivial
 all_goals exact l8 hP _
theorem b3c{l:Nat}(h:Z.D l)(j:Option Code)(hj:∀c,j=some c->b23 c):Sf Z P (VP Z) (Instr.endRound l j):=by
 unfold Instr.endRound;exact Sf.bind (a1J h) fun r hr=>Sf.bind (R6 h (.loop _ ⟨hj,hr.fn,hr.tmps,hr.assign,hr.body,hr.defers⟩)) fun _ _=>Sf.pure (.bool _)
theorem b40(hP:POK Z P){l:Nat}(h:Z.D l):Sf Z P (fun j=>∀c,j=some c->b23 c) (Instr.endLoop l):=by
 unfold Instr.endLoop;refine Sf.bind (a1J h) fun r hr=>?_;split
 ·exact Sf.bind (R:=fun _=>True) (l8 hP _) fun _ _=>Sf.bind (R6 h (.loop _ ⟨hr.pending,hr.fn,hr.tmps,hr.assign,hr.body,hr.defers⟩)) fun _ _=>Sf.pure hr.pending
 ·exact Sf.bind (R6 h (.loop _ ⟨hr.pending,hr.fn,hr.tmps,hr.assign,hr.body,hr.defers⟩)) fun _ _=>Sf.pure hr.pending
theorem a3f{l:Nat}(h:Z.D l):Sf Z P (fun ds=>ds=[]) (Instr.takeDeferred l):=by
 unfold Instr.takeDeferred;refine Sf.bind (L9 h) fun o ho=>?_;split
 ·cases ho;exact Sf.bind (R6 h .taken) fun _ _=>Sf.pure rfl
 ·exact j3 _
def MarksP(Z:Zone)(ds:List Deferred):Prop:=∀d∈ds,∃r,d={target:=.collected r,args:=#[]}/\Z.D r
theorem b1D{fn:FuncId}{tmps:Array Value}(ht:AP Z tmps)(params:Array Tmp){assign body:Code}(ha:CodeP Z assign)(hb:CodeP Z body){around:Option Nat}(har:∀l,around=some l->Z.D l):
 Sf Z P (fun r=>Z.D r.1/\MarksP Z r.2) (Instr.enterLoop fn tmps params assign body around):=by
 unfold Instr.enterLoop;split
 ·refine Sf.bind (a1J (har _ rfl)) fun r hr=>Sf.bind (R:=fun p:Nat×List Deferred=>Z.D p.1/\MarksP Z p.2) (Sf.pure ⟨hr.defers,by intro d hd;cases hd⟩) fun p hp=>?_;exact Sf.bind (N7 (.loop _ ⟨by simp,trivial,ht,ha,hb,hp.1⟩)) fun l hl=>Sf.pure ⟨hl,hp.2⟩
 ·refine Sf.bind (N7 .deferred) fun r hr=>Sf.bind (R:=fun p:Nat×List Deferred=>Z.D p.1/\MarksP Z p.2) (Sf.pure ⟨hr,by intro d hd;simp at hd;exact⟨r,hd,hr⟩⟩) fun p hp=>?_;exact Sf.bind (N7 (.loop _ ⟨by simp,trivial,ht,ha,hb,hp.1⟩)) fun l hl=>Sf.pure ⟨hl,hp.2⟩
theorem a4m(a:Addr)(n:Nat):Sf Z P (fun _=>True) (Builtin.holdsCells a n):=by
 unfold Builtin.holdsCells;refine Sf.bind (P8 _) fun s _=>?_;split<;>exact Sf.pure trivial
theorem a5B(x:Value):Sf Z P (fun _=>True) (Builtin.lenOf x):=by
 unfold Builtin.lenOf;split<;>first|exact Sf.pure trivial|exact j3 _
theorem Z5(size n:Nat){x:Value}(hx:VP Z x):Sf Z P (AP Z) (Builtin.firstCells size n x):=by
 unfold Builtin.firstCells
 cases hx with
 | slice a _ _ ha=>exact a1k ha _
 | snil=>exact Sf.pure AP.nil
 | string s=>exact Sf.pure (a8K _)
 | _=>exact j3 _
theorem a2W{c:Array Value}(h:AP Z c)(n:Nat):AP Z (Builtin.zeroCells c n):=a3W h _
theorem a6W(size l n:Nat)(base:Option Addr)(x:Value):Sf Z P (fun _=>True) (Builtin.mayShare size l n base x):=by
 unfold Builtin.mayShare
 have rest:∀c:Bool,Sf Z P (fun _=>True) (if (!c)=true then pure true else(match x with
  | .slice (some b) _ _=>(do let r <-Builtin.holdsCells b (n*size);pure (!r||base.any (·.block==b.block)):Sem Bool)
  | _=>pure false)):=fun c=>by
  refine J4 _ (Sf.pure trivial) ?_;split
  ·exact Sf.bind (a4m _ _) fun _ _=>Sf.pure trivial
  ·exact Sf.pure trivial
 cases base with
 | none=>exact Sf.bind (R:=fun _=>True) (Sf.pure trivial) fun r _=>rest r
 | some a=>exact Sf.bind (a4m _ _) fun _ _=>Sf.bind (a2p _) fun _ _=>Sf.bind (R:=fun _=>True) (Sf.pure trivial) fun r _=>rest r
end
section
variable{Z:Zone}{P:Program}
theorem b0s:Sf Z P (fun _=>True) (mark .noRoom):=⟨trivial,trivial⟩
theorem c0L{α:Type}{Q:α->Prop}(x:String):Sf Z P Q (unsupported (.resourceLimit x):Sem α):=trivial
theorem a6X(hP:POK Z P)(zeros:Bool)(size n:Nat)(elem:TypeId){x:Value}(hx:VP Z x):
 Sf Z P (AP Z) (if (!zeros)=true then Builtin.firstCells size n x else if n*size=0 then pure #[] else do pure (Builtin.zeroCells (<-zeroValue elem).cells n)):=
 J4 _ (Z5 _ _ hx) (J4 _ (Sf.pure AP.nil) (Sf.bind (K9 hP _) fun z hz=>Sf.pure (a2W hz.cells _)))
theorem b7V(hP:POK Z P)(ts:Array TypeId)(t:TypeId){args:Array Value}(h:AP Z args):Sf Z P (VP Z) (Builtin.append_ ts t args):=by
 unfold Builtin.append_;split
 case h_2=>exact j3 _
 rename_i sT s x e;have e:=Prod.mk.inj e;have e':=Prod.mk.inj e.2;have hs:VP Z s:=h.get e'.1;have hx:VP Z x:=h.get e'.2;refine Sf.bind (l5 _) fun d _=>?_;split
 case h_2=>exact j3 _
 rename_i elem;have hs0:=hs
 cases hs0 with
 | snil l c=>
  dsimp only
  repeat' first
   | with_reducible exact Sf.pure (.snil _ _)
   | with_reducible exact Sf.pure (.slice _ _ _ (by assumption))
   | with_reducible refine Sf.bind (G6 _) fun _ _=>?_
   | with_reducible refine Sf.bind (l5 _) fun _ _=>?_
   | with_reducible refine Sf.bind (F6 _) fun _ _=>?_
   | with_reducible refine Sf.bind (a06 _) fun _ _=>?_
   | with_reducible refine Sf.bind (a5B _) fun _ _=>?_
   | with_reducible refine Sf.bind (H8 _) fun _ _=>?_
   | with_reducible refine Sf.bind (a2Q _) fun _ _=>?_
   | with_reducible refine Sf.bind (a6W _ _ _ _ _) fun _ _=>?_
   | with_reducible refine Sf.bind b0s fun _ _=>?_
   | with_reducible refine Sf.bind (K9 hP _) fun _ _=>?_
   | with_reducible refine Sf.bind (a6X hP _ _ _ _ hx) fun _ _=>?_
   | with_reducible refine Sf.bind (Z5 _ _ hs) fun _ _=>?_
   | with_reducible refine Sf.bind (a0X (by rw[add_block];assumption) _ _ (AP.list (by assumption))) fun _ _=>?_
   | with_reducible refine Sf.bind (R7 _ ((AP.append (by assumption) (by assumption)).append (a2W (VP.cells (by assumption)) _))) fun _ _=>?_
   | with_reducible refine Sf.bind (R:=fun _=>True) (Sf.pure trivial) fun _ _=>?_
   | with_reducible refine Sf.bind (R:=fun _=>True) (l8 hP _) fun _ _=>?_
   | with_reducible exact c0L _
   | with_reducible exact l8 hP _
   | with_reducible refine Sf.bind (R:=fun _=>True) (J4 _ (l8 hP _) ?_) fun _ _=>?_
   | with_reducible refine J4 _ ?_ ?_
   | split
 | slice a l c ha=>
  dsimp only
  repeat' first
   | with_reducible exact Sf.pure (.snil _ _)
   | with_reducible exact Sf.pure (.slice _ _ _ (by assumption))
   | with_reducible refine Sf.bind (G6 _) fun _ _=>?_
   | with_reducible refine Sf.bind (l5 _) fun _ _=>?_
   | with_reducible refine Sf.bind (F6 _) fun _ _=>?_
   | with_reducible refine Sf.bind (a06 _) fun _ _=>?_
   | with_reducible refine Sf.bind (a5B _) fun _ _=>?_
   | with_reducible refine Sf.bind (H8 _) fun _ _=>?_
   | with_reducible refine Sf.bind (a2Q _) fun _ _=>?_
   | with_reducible refine Sf.bind (a6W _ _ _ _ _) fun _ _=>?_
   | with_reducible refine Sf.bind b0s fun _ _=>?_
   | with_reducible refine Sf.bind (K9 hP _) fun _ _=>?_
   | with_reducible refine Sf.bind (a6X hP _ _ _ _ hx) fun _ _=>?_
   | with_reducible refine Sf.bind (Z5 _ _ hs) fun _ _=>?_
   | with_reducible refine Sf.bind (a0X (by rw[add_block];assumption) _ _ (AP.list (by assumption))) fun _ _=>?_
   | with_reducible refine Sf.bind (R7 _ ((AP.append (by assumption) (by assumption)).append (a2W (VP.cells (by assumption)) _))) fun _ _=>?_
   | with_reducible refine Sf.bind (R:=fun _=>True) (Sf.pure trivial) fun _ _=>?_
   | with_reducible refine Sf.bind (R:=fun _=>True) (l8 hP _) fun _ _=>?_
   | with_reducible exact c0L _
   | with_reducible exact l8 hP _
   | with_reducible refine Sf.bind (R:=fun _=>True) (J4 _ (l8 hP _) ?_) fun _ _=>?_
   | with_reducible refine J4 _ ?_ ?_
   | split
 | _=>exact(trivial:HaltOK (.stuck _))
end
section
variable{Z:Zone}{P:Program}
theorem b41{α:Type}{Q:α->Prop}(x:String):Sf Z P Q (unsupported (.noEntry x):Sem α):=trivial
theorem c2g(ts:Array TypeId)(t:TypeId){args:Array Value}(h:AP Z args):Sf Z P (VP Z) (Builtin.copy_ ts t args):=by
 unfold Builtin.copy_;split
 case h_2=>exact j3 _
 rename_i sT d x e;have e:=Prod.mk.inj e;have e':=Prod.mk.inj e.2;have hd:VP Z d:=h.get e'.1;have hx:VP Z x:=h.get e'.2;refine Sf.bind (l5 _) fun d _=>?_;split
 case h_2=>exact j3 _
 cases hd with
 | snil l c=>exact Sf.bind (a5B _) fun _ _=>Sf.bind (G6 _) fun _ _=>Sf.bind (Z5 _ _ hx) fun _ _=>Sf.pure (.int _ _)
 | slice a l c ha=>exact Sf.bind (a5B _) fun _ _=>Sf.bind (G6 _) fun _ _=>Sf.bind (Z5 _ _ hx) fun cs hc=>Sf.bind (a0X ha _ _ hc.list) fun _ _=>Sf.pure (.int _ _)
 | _=>exact(trivial:HaltOK (.stuck _))
theorem c3T(ts:Array TypeId)(t:TypeId){args:Array Value}(h:AP Z args):Sf Z P (VP Z) (Builtin.len_ ts t args):=by
 unfold Builtin.len_;split
 case h_2=>exact j3 _
 rename_i sT x e;have e:=Prod.mk.inj e;have hx:VP Z x:=h.get e.2;refine Sf.bind (l5 _) fun d _=>?_;split
 ·exact Sf.pure (.int _ _)
 ·exact Sf.pure (.int _ _)
 ·refine Sf.bind (l5 _) fun d _=>?_;split
  ·exact Sf.pure (.int _ _)
  ·exact j3 _
 ·exact Sf.pure (.int _ _)
 ·exact Sf.pure (.int _ _)
 ·exact Sf.pure (.int _ _)
 ·refine Sf.bind (L9 hx.inMap) fun o ho=>?_;split
  ·exact Sf.pure (.int _ _)
  ·exact j3 _
 ·cases hx
 ·exact j3 _
theorem c3U(ts:Array TypeId)(t:TypeId){args:Array Value}(h:AP Z args):Sf Z P (VP Z) (Builtin.cap_ ts t args):=by
 unfold Builtin.cap_;split
 case h_2=>exact j3 _
 rename_i sT x e;have e:=Prod.mk.inj e;have hx:VP Z x:=h.get e.2;refine Sf.bind (l5 _) fun d _=>?_;split
 ·exact Sf.pure (.int _ _)
 ·refine Sf.bind (l5 _) fun d _=>?_;split
  ·exact Sf.pure (.int _ _)
  ·exact j3 _
 ·exact Sf.pure (.int _ _)
 ·exact Sf.pure (.int _ _)
 ·cases hx
 ·exact j3 _
theorem c2h(x y:Value):Sf Z P (VP Z) (Builtin.max2 x y):=by
 unfold Builtin.max2;split
 ·exact Sf.pure (.int _ _)
 ·split
  ·exact Sf.bind (H8 _) fun _ _=>Sf.pure (.float _ _)
  all_goals exact Sf.pure (.float _ _)
 ·exact Sf.bind (a3H _ _ _) fun v _=>Sf.bind (a3U _) fun b _=>Sf.pure (.string _)
 ·exact D7 _ trivial
 ·exact D7 _ trivial
 ·exact j3 _
theorem c2i(x y:Value):Sf Z P (VP Z) (Builtin.min2 x y):=by
 unfold Builtin.min2;split
 ·exact Sf.pure (.int _ _)
 ·split
  ·exact Sf.bind (H8 _) fun _ _=>Sf.pure (.float _ _)
  all_goals exact Sf.pure (.float _ _)
 ·exact Sf.bind (a3H _ _ _) fun v _=>Sf.bind (a3U _) fun b _=>Sf.pure (.string _)
 ·exact D7 _ trivial
 ·exact D7 _ trivial
 ·exact j3 _
theorem b0t{f:Value->Value->Sem Value}(hf:∀x y,Sf Z P (VP Z) (f x y)):∀(l:List Value)(x:Value),VP Z x->Sf Z P (VP Z) (l.foldlM f x):=by
 intro l
 induction l with
 | nil=>intro x hx;exact Sf.pure hx
 | cons y l ih=>intro x hx;rw[List.foldlM_cons];exact Sf.bind (hf _ _) fun z hz=>ih z hz
theorem c3V(ts:Array TypeId)(t:TypeId){args:Array Value}(h:AP Z args):Sf Z P (VP Z) (Builtin.max_ ts t args):=by
 unfold Builtin.max_;split
 ·exact j3 _
 ·rename_i x l e;exact b0t c2h _ _ (h.list x (by rw[e];simp))
theorem c3W(ts:Array TypeId)(t:TypeId){args:Array Value}(h:AP Z args):Sf Z P (VP Z) (Builtin.min_ ts t args):=by
 unfold Builtin.min_;split
 ·exact j3 _
 ·rename_i x l e;exact b0t c2i _ _ (h.list x (by rw[e];simp))
theorem a4I(ts:Array TypeId)(t:TypeId){args:Array Value}(h:AP Z args):Sf Z P (VP Z) (Builtin.unsafeSliceData_ ts t args):=by
 obtain⟨l⟩:=args;rcases l with _|⟨x,_|⟨y,l⟩⟩
 ·exact j3 _
 ·have hx:VP Z x:=h _ (by simp)
  cases hx with
  | snil=>exact Sf.pure .pnil
  | slice a n c ha=>
   unfold Builtin.unsafeSliceData_
   refine J4 _ (Sf.pure (.ptr _ ha)) (Sf.bind (a3V ha) fun o _=>J4 _ (Sf.pure (.ptr _ ha)) (Sf.bind (a0n _) fun e _=>Sf.bind (N7 (.view _ _ ha)) fun r hr=>Sf.pure (.ptr _ hr)))
  | _=>exact(trivial:HaltOK (.stuck _))
 ·cases x with
  | slice a n c=>cases a<;>exact(trivial:HaltOK (.stuck _))
  | _=>exact(trivial:HaltOK (.stuck _))
theorem a7t(hP:POK Z P)(ts:Array TypeId)(t:TypeId){args:Array Value}(h:AP Z args):Sf Z P (VP Z) (Builtin.unsafeString_ ts t args):=by
 obtain⟨l⟩:=args;rcases l with _|⟨x,_|⟨y,_|⟨z,l⟩⟩⟩
 ·exact j3 _
 ·cases x<;>exact(trivial:HaltOK (.stuck _))
 ·have hx:VP Z x:=h _ (by simp);have main:∀p,VP Z (.pointer p)->Sf Z P (VP Z) (Builtin.unsafeString_ ts t #[.pointer p,y]):=fun p hp=>by
   unfold Builtin.unsafeString_;refine Sf.bind (a06 _) fun n _=>?_;split
   case h_2=>exact j3 _
   refine J4 _ (Sf.bind (R:=fun _=>True) (l8 hP _) fun _ _=>?_) (J4 _ (a2T _ _ trivial) ?_)
   ·refine J4 _ (a2T _ _ trivial) ?_
    cases p with
    | none=>exact J4 _ (Sf.pure (.string _)) (l8 hP _)
    | some a=>
     refine J4 _ (Sf.pure (.string _)) (Sf.bind (a0n _) fun e _=>Sf.bind (a1H _ _ _) fun b _=>J4 _ (Sf.bind (a5w hp.inPtr _ _) fun s _=>Sf.bind (a3T _ _) fun _ _=>Sf.pure (.string _)) (D7 _ trivial))
   ·cases p with
    | none=>exact J4 _ (Sf.pure (.string _)) (l8 hP _)
    | some a=>
     refine J4 _ (Sf.pure (.string _)) (Sf.bind (a0n _) fun e _=>Sf.bind (a1H _ _ _) fun b _=>J4 _ (Sf.bind (a5w hp.inPtr _ _) fun s _=>Sf.bind (a3T _ _) fun _ _=>Sf.pure (.string _)) (D7 _ trivial))
  cases x with
  | pointer p=>exact main p hx
  | _=>exact(trivial:HaltOK (.stuck _))
 ·cases x<;>exact(trivial:HaltOK (.stuck _))
theorem a4b(ts:Array TypeId)(t:TypeId){args:Array Value}(h:AP Z args):Sf Z P (VP Z) (Builtin.unsafeStringData_ ts t args):=by
 obtain⟨l⟩:=args;rcases l with _|⟨x,_|⟨y,l⟩⟩
 ·exact j3 _
 ·cases x with
  | string s=>
   unfold Builtin.unsafeStringData_
   refine J4 _ (Sf.bind (H8 _) fun c _=>J4 _ (Sf.pure .pnil) (Sf.bind (a0n _) fun e _=>Sf.bind (R7 _ AP.nil) fun a ha=>Sf.bind (a0O _) fun _ _=>Sf.pure (.ptr _ ha))) (Sf.bind (a0n _) fun e _=>Sf.bind (R7 _ (a8K _)) fun a ha=>Sf.bind (a3T _ _) fun _ _=>Sf.pure (.ptr _ ha))
  | _=>exact(trivial:HaltOK (.stuck _))
 ·cases x<;>exact(trivial:HaltOK (.stuck _))
inductive TgP(Z:Zone):Target->Prop
 | fn (fn:Fn) (c:Array Value) (h:FnP Z fn) (hc:AP Z c):TgP Z (.fn fn c)
 | nil:TgP Z .nil
 | builtin (b:Builtin) (ts:Array TypeId) (t:TypeId) (cs:Array Bool) (h:bOK b=true):TgP Z (.builtin b ts t cs)
def DP(Z:Zone)(d:Deferred):Prop:=TgP Z d.target/\AP Z d.args
inductive a09(Z:Zone):Next->Prop
 | value (v:Value) (h:VP Z v):a09 Z (.value v)
 | skip:a09 Z .skip
 | enter (f:FuncId) (args:Array Value) (h:Z.F f) (ha:AP Z args):a09 Z (.enter f args)
 | round (l:Nat) (f:FuncId) (tmps:Array Value) (assign body:Code) (h:Z.D l) (ht:AP Z tmps) (ha:CodeP Z assign) (hb:CodeP Z body):a09 Z (.round l f tmps assign body)
theorem X8{s:Sem Value}(h:Sf Z P (VP Z) s):Sf Z P (a09 Z) (do pure (.value (<-s))):=Sf.bind h fun v hv=>Sf.pure (.value _ hv)
theorem c2j{s:Sem Unit}(h:Sf Z P (fun _=>True) s):Sf Z P (a09 Z) (do s;pure .skip):=Sf.bind h fun _ _=>Sf.pure .skip
structure PQK(Z:Zone)(P:Program):Prop extends POK Z P where
 num:∀f fn,Z.F f->P.funcs[f]?=some fn->(fn.name== "runtime.NumGoroutine")=false
 ext:∀f fn,Z.F f->P.funcs[f]?=some fn->fn.body=none->(∀e args,Extern.findNext fn=some e->AP Z args->Sf Z P (a09 Z) (e args))/\(∀e args,Extern.find fn=some e->AP Z args->Sf Z P (VP Z) (e args))
 code:∀f fn c,Z.F f->P.funcs[f]?=some fn->fn.body=some c->CodeP Z c
theorem b42(hP:POK Z P)(b:Builtin)(hb:bOK b=true)(ts:Array TypeId)(t:TypeId)(cs:Array Bool){args:Array Value}(h:AP Z args):Sf Z P (a09 Z) (builtin b ts t cs args):=by
 unfold builtin
 cases b<;>first
  | exact X8 (b7V hP _ _ h)
  | exact X8 (c3U _ _ h)
  | exact X8 (c2g _ _ h)
  | exact X8 (b7U hP _ _ h)
  | exact X8 (c3T _ _ h)
  | exact X8 (c3V _ _ h)
  | exact X8 (c3W _ _ h)
  | exact X8 (b29 hP _)
  | exact X8 (a4I _ _ h)
  | exact X8 (a7t hP _ _ h)
  | exact X8 (a4b _ _ h)
  | cases hb
theorem a6Y(hP:PQK Z P){f:FuncId}(hf:Z.F f){args:Array Value}(h:AP Z args):Sf Z P (a09 Z) (callFunc f args):=by
 unfold callFunc;refine Sf.bind y9 ?_;rintro p rfl
 cases hfn:p.funcs[f]? with
 | none=>exact j3 _
 | some fn=>
  dsimp only;rw[hP.num f fn hf hfn];rw[if_neg (by simp)]
  cases hb:fn.body with
  | some c=>
   rw[if_neg (by simp)]
   exact Sf.pure (.enter _ _ hf h)
  | none=>
   obtain⟨h1,h2⟩:=hP.ext f fn hf hfn hb;rw[if_pos (by simp)];refine Sf.bind (R:=fun _=>True) ⟨trivial,trivial⟩ fun _ _=>?_
   cases hn:Extern.findNext fn with
   | some e=>exact h1 e args hn h
   | none=>
    dsimp only
    cases hx:Extern.find fn with
    | some e=>exact Sf.bind (h2 e args hx h) fun v hv=>Sf.pure (.value _ hv)
    | none=>exact J4 _ (Sf.pure (.value _ (.tuple _ AP.nil))) (D7 _ trivial)
def PlP(Z:Zone):Place->Prop
 | .val v=>VP Z v
 | .var a=>Z.D a.block
theorem a8L(t:TypeId){x:Place}(h:PlP Z x):Sf Z P (VP Z) (x.get t):=by
 cases x with
 | val v=>exact Sf.pure h
 | var a=>exact X7 t h
theorem b7W(hP:POK Z P):∀(l:List FieldStep)(t:TypeId)(x:Place),PlP Z x->Sf Z P (fun r=>PlP Z r.2) (follow l t x):=by
 intro l
 induction l with
 | nil=>intro t x h;exact Sf.pure h
 | cons s l ih=>
  intro t x h;unfold follow;refine Sf.bind (l5 _) fun d _=>?_;split
  ·split
   ·split
    ·exact Sf.bind (a8L t h) fun v hv=>Sf.bind (a1s hP hv) fun a ha=>Sf.bind (a19 ha _) fun b hb=>ih _ _ hb
    ·split
     ·exact Sf.bind (a19 h _) fun b hb=>ih _ _ hb
     ·exact Sf.bind (V8 _ (VP.inAgg h) _) fun b hb=>ih _ _ hb
     ·exact j3 _
   ·exact j3 _
  ·exact j3 _
theorem c2k(hP:POK Z P)(t u:TypeId){v:Value}(hv:VP Z v)(a b:String):Sf Z P (VP Z) (Builtin.ssaWrapNilChk_ #[t] u #[v,strVal a,strVal b]):=by
 unfold Builtin.ssaWrapNilChk_
 cases hv with
 | ptr a ha=>exact Sf.pure (.ptr _ ha)
 | pnil=>
  refine Sf.bind (H8 (.extern "ssa:wrapnilchk.dereferenced" 2)) fun c _=>?_;dsimp only
  repeat' first
   | with_reducible refine Sf.bind (l5 _) fun _ _=>?_
   | with_reducible refine Sf.bind (F6 _) fun _ _=>?_
   | with_reducible refine Sf.bind (R:=fun _=>True) (l8 hP _) fun _ _=>?_
   | with_reducible exact l8 hP _
   | with_reducible exact j3 _
   | with_reducible exact b41 _
   | with_reducible refine J4 _ ?_ ?_
   | split
 | _=>exact(trivial:HaltOK (.stuck _))
theorem a9B(hP:POK Z P)(t:TypeId){x:Place}(h:PlP Z x)(pr:Bool)(w:Option String):Sf Z P (VP Z) (receiverAt t x pr w):=by
 unfold receiverAt;refine Sf.bind (l5 _) fun d _=>?_;split
 ·exact a8L _ h
 ·refine Sf.bind (a8L _ h) fun v hv=>?_;split
  ·exact Sf.bind (c2k hP _ _ hv _ _) fun v hv=>Sf.bind (a1s hP hv) fun a ha=>X7 _ ha
  ·exact Sf.bind (R:=VP Z) (Sf.pure hv) fun v hv=>Sf.bind (a1s hP hv) fun a ha=>X7 _ ha
 ·exact Sf.pure (.ptr _ h)
 ·exact j3 _
 ·exact a8L _ h
theorem b7X(hP:POK Z P){name:String}(hn:Z.N name):∀(n:Nat)(t:TypeId)(v:Value),Z.T t->VP Z v->Sf Z P (fun r=>Z.F r.1/\VP Z r.2) (method n t v name):=by
 intro n
 induction n with
 | zero=>intro t v _ _;exact D7 _ trivial
 | succ n ih=>
  intro t v ht hv;unfold method;refine Sf.bind (F6 _) fun i hi=>?_;split
  ·rename_i m hm;have hmem:=Array.mem_of_find?_eq_some hm;have hname:m.name=name:=by have:=Array.find?_some hm;simpa using this
   refine Sf.bind (b7W hP _ _ _ (show PlP Z (.val v) from hv)) fun r hr=>?_;obtain⟨xt,x⟩:=r;dsimp only;split
   ·refine Sf.bind (a8L _ hr) fun w hw=>?_;split
    ·exact ih _ _ hw.inIface.1 hw.inIface.2
    ·exact l8 hP _
    ·exact j3 _
   ·rename_i f pr hf;exact Sf.bind (a9B hP _ hr _ _) fun w hw=>Sf.pure ⟨hP.methods t i ht hi m hmem (hname▸hn) f pr hf,hw⟩
  ·exact j3 _
theorem a9C(hP:PQK Z P){recv:Value}(hr:VP Z recv){name:String}(hn:Z.N name){args:Array Value}(h:AP Z args):Sf Z P (a09 Z) (callMethod recv name args):=by
 unfold callMethod
 cases hr with
 | iface t v ht hv=>
  refine Sf.bind y9 fun p _=>Sf.bind (b7X hP.toPOK hn _ _ _ ht hv) fun r hr=>?_;obtain⟨f,w⟩:=r
  exact a6Y hP hr.1 ((AP.one hr.2).append h)
 | nilIface=>exact l8 hP.toPOK _
 | _=>exact(trivial:HaltOK (.stuck _))
theorem b7Y:∀(l:List (Tmp×Value)),(∀p∈l,VP Z p.2)->∀c:Array Value,AP Z c->AP Z (l.foldl (fun c(p:Tmp×Value)=>c.setIfInBounds p.1 p.2) c):=by
 intro l
 induction l with
 | nil=>intro _ c h;exact h
 | cons p l ih=>intro hl c h;exact ih (fun q hq=>hl q (by simp[hq])) _ (h.set _ (hl p (by simp)))
theorem c0M{l:Nat}(hl:Z.D l){args:Array Value}(h:AP Z args):Sf Z P (a09 Z) (Instr.yield l args):=by
 unfold Instr.yield;refine Sf.bind (a1J hl) fun r hr=>?_;refine J4 _ (by trivial) (Sf.pure (.round _ _ _ _ _ hl ?_ hr.assign hr.body));rw[<-Array.foldl_toList,Array.toList_zip];refine b7Y _ (fun p hp=>?_) _ hr.tmps;obtain⟨a,b⟩:=p;exact h.list b (List.of_mem_zip hp).2
theorem b0u(hP:PQK Z P){d:Deferred}(h:DP Z d):Sf Z P (a09 Z) (invoke d.target d.args):=by
 obtain⟨t,args⟩:=d;obtain⟨ht,ha⟩:=h;dsimp only at ht ha⊢;unfold invoke
 cases ht with
 | nil=>exact l8 hP.toPOK _
 | builtin b ts t cs hb=>exact b42 hP.toPOK b hb ts t cs ha
 | fn fn c hf hc=>
  cases hf with
  | func f hf=>exact a6Y hP hf (ha.append hc)
  | method n hn=>
   dsimp only
   cases e:args[0]? with
   | none=>exact j3 _
   | some recv=>exact a9C hP (ha.get e) hn (ha.extract _ _)
  | yield l hl=>exact c0M hl ha
theorem b43{f:Value}(hf:VP Z f){args:Array Value}(h:AP Z args):Sf Z P (DP Z) (Deferred.ofValue f args):=by
 unfold Deferred.ofValue
 cases hf with
 | func fn a c hfn ha hc=>exact Sf.pure ⟨.fn _ _ hfn hc,AP.append ha h⟩
 | nilFunc=>exact Sf.pure ⟨.nil,h⟩
 | _=>exact(trivial:HaltOK (.stuck _))
theorem a8M{ρ:Operand->Value}{c:Call}(hρ:∀x∈c.operands,VP Z (ρ x))(hc:a3S Z c.callee)(t:TypeId):Sf Z P (DP Z) (resolve ρ c t):=by
 unfold resolve;have hargs:AP Z (c.args.map ρ):=fun v hv=>by
  obtain⟨x,hx,rfl⟩:=Array.mem_map.1 hv;exact hρ x (by unfold Call.operands;simp[hx])
 dsimp only
 cases e:c.callee with
 | builtin b=>rw[e] at hc;exact Sf.pure ⟨.builtin _ _ _ _ hc,hargs⟩
 | invoke r n=>rw[e] at hc;exact Sf.pure ⟨.fn _ _ (.method n hc) AP.nil,(AP.one (hρ r (by unfold Call.operands;simp[e]))).append hargs⟩
 | value f=>exact b43 (hρ f (by unfold Call.operands;simp[e])) hargs
theorem a8N:∀(l:List FieldStep)(t:TypeId)(x:Option Value),(∀v,x=some v->VP Z v)->Sf Z P (fun r=>∀t' v,r=.ok (t',some v)->VP Z v) (followBlind l t x):=by
 intro l
 induction l with
 | nil=>intro t x h;exact Sf.pure (by rintro _ _ ⟨⟩;exact h _ rfl)
 | cons s l ih=>
  intro t x h;unfold followBlind;refine Sf.bind (l5 _) fun d _=>?_;split
  ·split
   ·split
    ·exact Sf.pure (by simp)
    ·exact ih _ _ (by simp)
    ·exact j3 _
    ·exact Sf.pure (by simp)
    ·exact Sf.bind (V8 _ (VP.inAgg (h _ rfl)) _) fun b hb=>ih _ _ (by rintro _ ⟨⟩;exact hb)
    ·exact j3 _
    ·exact ih _ _ (by simp)
   ·exact j3 _
  ·exact j3 _
theorem b3d{name:String}:∀(n:Nat)(t:TypeId)(v:Value),VP Z v->Sf Z P (fun _=>True) (nilAhead n t v name):=by
 intro n
 induction n with
 | zero=>intro t v _;exact Sf.pure trivial
 | succ n ih=>
  intro t v hv;unfold nilAhead;refine Sf.bind (F6 _) fun i hi=>?_;split
  ·refine Sf.bind (a8N _ _ _ (by rintro _ ⟨⟩;exact hv)) fun r hr=>?_;split
   ·exact Sf.pure trivial
   ·split
    ·exact ih _ _ (hr _ _ rfl).inIface.2
    ·exact Sf.pure trivial
    ·exact j3 _
    ·exact Sf.pure trivial
    ·exact Sf.pure trivial
    ·refine Sf.bind (l5 _) fun d _=>?_;split<;>exact Sf.pure trivial
  ·exact j3 _
end
section
variable{Z:Zone}{P:Program}
theorem sf_execOp(hP:PQK Z P){ρ:Operand->Value}{o:Oper}(hk:OpK Z o.op)(hρ:∀x∈o.op.operands,VP Z (ρ x)):Sf Z P (a09 Z) (execOp ρ o):=by
 obtain⟨dst,op,type,pos,after,guard⟩:=o;dsimp only at hk hρ;have hv:∀x,x∈op.operands->VP Z (ρ x):=hρ;unfold execOp
 cases op with
 | move x=>exact Sf.pure (.value _ (hv x (by simp[Op.operands])))
 | assign x=>exact Sf.pure (.value _ (hv x (by simp[Op.operands])))
 | pick c a b=>
  refine Sf.bind (a3U _) fun t _=>Sf.pure (.value _ ?_);split
  ·exact hv a (by simp[Op.operands])
  ·exact hv b (by simp[Op.operands])
 | alloc e=>exact X8 (c0A hP.toPOK _)
 | box e x=>exact X8 (c3S _ (hv x (by simp[Op.operands])))
 | build t ps=>
  refine X8 (c0C hP.toPOK _ fun p hp=>?_);obtain⟨q,hq,rfl⟩:=Array.mem_map.1 hp;obtain⟨i,x⟩:=q
  exact hv x (by simp[Op.operands];exact⟨i,hq⟩)
 | buildSlice t l ps=>
  refine X8 (a9u hP.toPOK _ _ fun p hp=>?_);obtain⟨q,hq,rfl⟩:=Array.mem_map.1 hp;obtain⟨i,x⟩:=q
  exact hv x (by simp[Op.operands];exact⟨i,hq⟩)
 | load t a=>exact X8 (b7Q _ (hv a (by simp[Op.operands])))
 | store t a x=>exact c2j (b4P _ (hv a (by simp[Op.operands])) (hv x (by simp[Op.operands])))
 | ready g=>exact hk.elim
 | waits g=>exact hk.elim
 | nilCheck x=>
  have h:=hv x (by simp[Op.operands]);dsimp only;generalize ρ x=v at h
  cases h with
  | pnil=>exact l8 hP.toPOK _
  | nilIface=>exact l8 hP.toPOK _
  | nilFunc=>exact l8 hP.toPOK _
  | func fn f c hf ha hc=>
   cases hf with
   | method n hn=>
    dsimp only;split
    ·exact l8 hP.toPOK _
    ·rename_i e;refine Sf.bind y9 fun p _=>Sf.bind (b3d _ _ _ (VP.inIface (AP.get ha e)).2) fun r _=>?_;exact J4 _ (a2T _ _ trivial) (Sf.pure (.value _ (.func _ _ _ (.method n hn) ha hc)))
    ·exact Sf.pure (.value _ (.func _ _ _ (.method n hn) ha hc))
   | func g hg=>exact Sf.pure (.value _ (.func _ _ _ (.func g hg) ha hc))
   | yield l hl=>exact Sf.pure (.value _ (.func _ _ _ (.yield l hl) ha hc))
  | iface t w ht hw=>exact Sf.pure (.value _ (.iface _ _ ht hw))
  | ptr a ha=>exact Sf.pure (.value _ (.ptr _ ha))
  | _=>exact Sf.pure (.value _ (by constructor<;>assumption))
 | binOp op t x y u=>exact X8 (Sf.bind (b4W _ _ _ _ (hv x (by simp[Op.operands])) (hv y (by simp[Op.operands]))) fun _ _=>c0H hP.toPOK _ _ (hv x (by simp[Op.operands])) (hv y (by simp[Op.operands])))
 | unOp op t x=>exact X8 (c0G _ _)
 | convert s d x=>exact X8 (b4Y _ _ (hv x (by simp[Op.operands])))
 | sliceToArrayPointer=>exact hk.elim
 | makeInterface t x=>exact X8 (a6m _ hk (hv x (by simp[Op.operands])))
 | makeFunc fn f c=>
  refine X8 (b28 hk (fun v h=>?_) (fun v h=>?_))
  ·obtain⟨x,hx,rfl⟩:=Array.mem_map.1 h;exact hv x (by simp[Op.operands,hx])
  ·obtain⟨x,hx,rfl⟩:=Array.mem_map.1 h;exact hv x (by simp[Op.operands,hx])
 | makeMap t r=>exact X8 (b4T _ _)
 | makeChan=>exact hk.elim
 | makeSlice t l c=>exact X8 (b1A hP.toPOK _ _ _)
 | slice t x l h m=>exact X8 (b4S hP.toPOK _ (hv x (by simp[Op.operands])) _ _ _)
 | fieldAddr s x f=>exact X8 (b4Q _ (hv x (by simp[Op.operands])) _)
 | field t x f=>exact X8 (c0E _ (hv x (by simp[Op.operands])) _)
 | indexAddr t x i=>exact X8 (b4R hP.toPOK _ (hv x (by simp[Op.operands])) _)
 | index t x i=>exact X8 (c0F hP.toPOK _ (hv x (by simp[Op.operands])) _)
 | lookup t x i ok=>exact X8 (b7T hP.toPOK _ (hv x (by simp[Op.operands])) (hv i (by simp[Op.operands])) _)
 | mapUpdate t m k x=>exact c2j (a5A hP.toPOK _ (hv m (by simp[Op.operands])) (hv k (by simp[Op.operands])) (hv x (by simp[Op.operands])))
 | insert t m k x=>exact c2j (a5A hP.toPOK _ (hv m (by simp[Op.operands])) (hv k (by simp[Op.operands])) (hv x (by simp[Op.operands])))
 | mapEntry=>exact hk.elim
 | entryStore=>exact hk.elim
 | range t x=>exact X8 (c0J _ (hv x (by simp[Op.operands])))
 | next x s=>exact X8 (c2f (hv x (by simp[Op.operands])) _ _)
 | entry x=>exact X8 (c0K (hv x (by simp[Op.operands])))
 | typeAssert x t u ok=>exact X8 (a9w hP.toPOK (hv x (by simp[Op.operands])) _ _ _)
 | extract x i=>exact X8 (b4U (hv x (by simp[Op.operands])) _)
 | call c=>exact Sf.bind (a8M (fun x h=>hρ x (by simpa [Op.operands] using h)) hk _) fun d hd=>b0u hP hd
 | go=>exact hk.elim
 | defer=>exact hk.elim
 | panic x=>exact X8 (b29 hP.toPOK _)
 | send=>exact hk.elim
 | recv=>exact hk.elim
 | select=>exact hk.elim
end
end Go.Zn
