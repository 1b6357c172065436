/- A part of what the last file proves. -/
import Derived.Test.YtgpbhjjajpbeeaaGreatDoorO02
set_option linter.all false
set_option maxHeartbeats 4000000
namespace Go.Zn
section
variable{Z:Zone}{P:Program}
theorem QT(hP:POK Z P)(em:Bool):∀(n:Nat)(t:TypeId)(v:Value),VP Z v->Sf Z P (λ_=>True) (Instr.checkKey em n t v):=by
 intro n
 induction n with
 | zero=>intro t v _;exact I4 _ trivial
 | succ n ih=>
  intro t v hv;unfold Instr.checkKey;refine Sf.bind (o6 t) λd _=>?_;split
  ·refine Sf.bind (J4 _) λi _=>?_;dsimp only;split
   ·split
    ·exact Sf.bind (R:=λ_=>True) (y7 hP _) λ_ _=>Sf.bind (UE _) λ_ _=>Sf.bind (R:=λ_=>True) (y7 hP _) λ_ _=>ih _ _ hv.jD.2
    ·exact Sf.bind (UE _) λ_ _=>Sf.bind (R:=λ_=>True) (y7 hP _) λ_ _=>ih _ _ hv.jD.2
   ·exact ih _ _ hv.jD.2
  ·refine Sf.bind (R:=λ_=>True) (ZY (I:=λ_=>True) _ trivial λi b _=>?_) λr _=>Sf.pure trivial;exact Sf.bind (J7 _) λ_ _=>Sf.bind (uX _ hv.kE _) λu hu=>Sf.bind (ih _ _ hu) λ_ _=>Sf.pure trivial
  ·refine Sf.bind (R:=λ_=>True) (Qz (I:=λ_=>True) _ trivial λf _ b _=>?_) λr _=>Sf.pure trivial;exact P5 _ (Sf.bind (uX _ hv.kE _) λu hu=>Sf.bind (ih _ _ hu) λ_ _=>Sf.pure trivial) (Sf.pure trivial)
  ·exact Sf.pure trivial
  ·exact l7 _
  ·exact l7 _
  ·exact l7 _
  ·exact Sf.pure trivial
def PO(Z:Zone)(l:List MapEntry):Prop:=∀e∈l,VP Z e.key/\VP Z e.val
theorem b0D(hP:POK Z P)(t:TypeId){k:Value}(hk:VP Z k):∀(l:List MapEntry)(i:Nat),PO Z l->Sf Z P (λo=>∀p,o=some p->VP Z p.2) (Instr.findAsking t k l i):=by
 intro l
 induction l with
 | nil=>intro i _;exact Sf.pure (by simp)
 | cons e l ih=>
  intro i hl;unfold Instr.findAsking;refine Sf.bind (ZM hP _ hk (hl e (by simp)).1) λb _=>?_;split
  ·exact Sf.pure (by rintro _ ⟨⟩;exact(hl e (by simp)).2)
  ·exact ih _ λx hx=>hl x (by simp[hx])
theorem b6l(d:TypeDesc)(k:Value):∀(l:List MapEntry)(i:Nat)(r:Option (Nat×Value)),PO Z l->Instr.findNow d k l i=some r->∀p,r=some p->VP Z p.2:=by
 intro l
 induction l with
 | nil=>intro i r _ h p hp;injection h with h;subst h;cases hp
 | cons e l ih=>
  intro i r hl h p hp;unfold Instr.findNow at h;split at h
  ·injection h with h;subst h;injection hp with hp;subst hp;exact(hl e (by simp)).2
  ·exact ih _ r (λx hx=>hl x (by simp[hx])) h p hp
  ·cases h
theorem UA(hP:POK Z P)(t:TypeId){k:Value}(hk:VP Z k){l:List MapEntry}(hl:PO Z l):Sf Z P (λo=>∀p,o=some p->VP Z p.2) (Instr.findKey t k l):=by
 unfold Instr.findKey;refine Sf.bind (o6 _) λd _=>?_;split
 ·rename_i e;exact Sf.pure (b6l d k l 0 _ hl e)
 ·exact b0D hP _ hk _ _ hl
theorem fK.jI{es:Array MapEntry}{c:Nat}(h:fK Z (.map es c)):∀e∈es,VP Z e.key/\VP Z e.val:=by cases h;assumption
theorem VP.jI{r:Nat}(h:VP Z (.map (some r))):Z.D r:=by cases h;assumption
theorem b9d(hP:POK Z P)(t:TypeId){x i:Value}(hx:VP Z x)(hi:VP Z i)(ok:Bool):Sf Z P (VP Z) (Instr.lookup t x i ok):=by
 unfold Instr.lookup;refine Sf.bind (o6 _) λd _=>?_;split
 ·rename_i key elem;dsimp only;have fin:∀r:Value×Bool,VP Z r.1->VP Z (if ok then .tuple #[r.1,.bool r.2] else r.1):=λr hr=>by
   split
   ·exact .tuple _ ((AP.nil.push hr).push (.bool _))
   ·exact hr
  generalize hf:(λr:Value×Bool=>(if ok then Value.tuple #[r.1,.bool r.2] else r.1))=f;have fin:∀r:Value×Bool,VP Z r.1->VP Z (f r):=by subst hf;exact fin
  have e1:∀v o,(if ok=true then Value.tuple #[v,.bool o] else v)=f (v,o):=by subst hf;intro v o;rfl
  simp only[e1]
  cases hx with
  | Bq=>
   refine Sf.bind (R:=λes:Array MapEntry=>PO Z es.toList) (Sf.pure (by intro e he;simp at he)) λes hes=>Sf.bind (QT hP _ _ _ _ hi) λ_ _=>Sf.bind (UA hP _ hi hes) λo ho=>?_;split
   ·exact Sf.bind (R:=λr:Value×Bool=>VP Z r.1) (Sf.pure (ho _ rfl)) λr hr=>Sf.pure (fin r hr)
   ·exact Sf.bind (U1 hP _) λz hz=>Sf.bind (R:=λr:Value×Bool=>VP Z r.1) (Sf.pure hz) λr hr=>Sf.pure (fin r hr)
  | map r hr=>
   refine Sf.bind (U5 hr) λo ho=>?_;split
   ·refine Sf.bind (R:=λes:Array MapEntry=>PO Z es.toList) (Sf.pure λe he=>ho.jI e (by simpa using he)) λes hes=>Sf.bind (QT hP _ _ _ _ hi) λ_ _=>Sf.bind (UA hP _ hi hes) λo ho=>?_;split
    ·exact Sf.bind (R:=λr:Value×Bool=>VP Z r.1) (Sf.pure (ho _ rfl)) λr hr=>Sf.pure (fin r hr)
    ·exact Sf.bind (U1 hP _) λz hz=>Sf.bind (R:=λr:Value×Bool=>VP Z r.1) (Sf.pure hz) λr hr=>Sf.pure (fin r hr)
   ·exact(trivial:dV (.stuck _))
  | _=>exact(trivial:dV (.stuck _))
 ·exact l7 _
theorem a8z{a b:Value}(ha:VP Z a)(hb:VP Z b):Sf Z P (VP Z) (Instr.keyThatStays a b):=by
 unfold Instr.keyThatStays;refine P5 _ (Sf.pure hb) (Sf.bind (O1 _) λ_ _=>Sf.pure ?_);split
 ·exact hb
 ·exact ha
theorem mem_modify{α:Type}{f:α->α}{i:Nat}{l:Array α}{x:α}(h:x∈l.modify i f):x∈l\/∃y∈l,x=f y:=by
 obtain⟨j,hj⟩:=gB.1 h;rw[aO] at hj;split at hj
 ·obtain⟨y,hy,rfl⟩:=aS.1 hj;exact .inr ⟨y,Array.mem_of_getElem? hy,rfl⟩
 ·exact .inl (Array.mem_of_getElem? hj)
theorem X2(hP:POK Z P)(t:TypeId){m k v:Value}(hm:VP Z m)(hk:VP Z k)(hv:VP Z v):Sf Z P (λ_=>True) (Instr.mapUpdate t m k v):=by
 unfold Instr.mapUpdate;refine Sf.bind (o6 _) λd _=>?_;split
 ·split
  ·exact y7 hP _
  ·refine Sf.bind (U5 hm.jI) λo ho=>?_;split
   ·rename_i es clock;have hes:=ho.jI;refine Sf.bind (QT hP _ _ _ _ hk) λ_ _=>Sf.bind (UA hP _ hk (λe he=>hes e (by simpa using he))) λo ho=>?_;split
    ·rename_i i w;refine Sf.bind (a8z (a:=((es[i]?).map (·.key)).getD k) ?_ hk) λk' hk'=>?_
     ·cases e:es[i]? with
      | none=>exact hk
      | some x=>exact(hes x (Array.mem_of_getElem? e)).1
     ·refine zH hm.jI (.map _ _ λe he=>?_);rcases mem_modify he with h|⟨y,hy,rfl⟩
      ·exact hes e h
      ·exact⟨hk',hv⟩
    ·refine zH hm.jI (.map _ _ λe he=>?_);rcases IE.1 he with h|rfl
     ·exact hes e h
     ·exact⟨hk,hv⟩
   ·exact l7 _
  ·exact l7 _
 ·exact l7 _
theorem b2U{α:Type}{i:Nat}{l:Array α}{x:α}(h:x∈l.eraseIdxIfInBounds i):x∈l:=by
 unfold Array.eraseIdxIfInBounds at h;split at h
 ·exact Array.mem_of_mem_eraseIdx h
 ·exact h
theorem b9e(hP:POK Z P)(ts:Array TypeId)(t:TypeId){args:Array Value}(h:AP Z args):Sf Z P (VP Z) (Builtin.delete_ ts t args):=by
 unfold Builtin.delete_;split
 ·rename_i mt m k e;have e:=jK e;have e':=jK e.2;have hm:VP Z m:=h.get e'.1;have hk:VP Z k:=h.get e'.2;refine Sf.bind (o6 _) λd _=>?_;split
  ·split
   ·exact Sf.bind (QT hP _ _ _ _ hk) λ_ _=>Sf.pure (.tuple _ AP.nil)
   ·refine Sf.bind (U5 hm.jI) λo ho=>?_;split
    ·rename_i es clock;have hes:=ho.jI;refine Sf.bind (QT hP _ _ _ _ hk) λ_ _=>Sf.bind (UA hP _ hk (λe he=>hes e (by simpa using he))) λo ho=>?_;split
     ·exact Sf.bind (zH hm.jI (.map _ _ λe he=>hes e (b2U he))) λ_ _=>Sf.pure (.tuple _ AP.nil)
     ·exact Sf.bind (zH hm.jI (.map _ _ hes)) λ_ _=>Sf.pure (.tuple _ AP.nil)
    ·exact l7 _
   ·exact l7 _
  ·exact l7 _
 ·exact l7 _
theorem c2G(t:TypeId){x:Value}(hx:VP Z x):Sf Z P (VP Z) (Instr.range t x):=by
 unfold Instr.range;refine Sf.bind (o6 _) λd _=>?_;split
 ·exact Sf.bind (R:=fK Z) (Sf.pure (.stringIter _ _)) λo ho=>Sf.bind (X0 ho) λr hr=>Sf.pure (.ptr _ hr)
 ·exact Sf.bind (R:=fK Z) (Sf.pure (.pK _ _ _)) λo ho=>Sf.bind (X0 ho) λr hr=>Sf.pure (.ptr _ hr)
 ·refine Sf.bind (U5 hx.jI) λo ho=>?_;split
  ·exact Sf.bind (R:=fK Z) (Sf.pure (.iter _ _ _ _ hx.jI)) λo ho=>Sf.bind (X0 ho) λr hr=>Sf.pure (.ptr _ hr)
  ·exact l7 _
 ·exact Sf.bind (R:=fK Z) (l7 _) λo ho=>Sf.bind (X0 ho) λr hr=>Sf.pure (.ptr _ hr)
theorem fK.yg{m since:Nat}{seen:Array Nat}{st:Nat}(h:fK Z (.mapIter (some m) since seen st)):Z.D m:=by cases h;assumption
theorem NF{x:Value}(hx:VP Z x)(s:Bool)(t:TypeId):Sf Z P (VP Z) (Instr.next x s t):=by
 unfold Instr.next;have over:Sf Z P (VP Z) (pure (.tuple #[.bool false]):Sem Value):=Sf.pure (.tuple _ (AP.nil.push (.bool _)));dsimp only;split
 ·rename_i r _;have hr:Z.D r:=hx.fO;refine Sf.bind (U5 hr) λo ho=>?_;split
  ·split
   ·exact Sf.bind (zH hr (.stringIter _ _)) λ_ _=>Sf.pure (.tuple _ (((AP.nil.push (.bool _)).push (.int _ _)).push (.int _ _)))
   ·exact over
  ·exact over
  ·rename_i m since seen last;have hm:=ho.yg;refine Sf.bind (U5 hm) λo ho=>?_;split
   ·rename_i es clock;have hes:=ho.jI;split
    ·exact CO _ _ trivial
    ·refine Sf.bind (O1 _) λn _=>?_;split
     ·rename_i e he;have hmem:e∈es:=by
       have h1:=Array.mem_of_getElem? he;rcases dh.1 h1 with h2|h2
       ·split at h2<;>simp at h2
       ·obtain⟨y,hy,hye⟩:=gI.1 h2;injection hye with hye;subst hye;rcases dh.1 hy with h3|h3
        ·exact(nH.1 (nH.1 h3).1).1
        ·exact(nH.1 (nH.1 h3).1).1
      exact Sf.bind (zH hr (.iter _ _ _ _ hm)) λ_ _=>Sf.pure (.tuple _ (((AP.nil.push (.bool _)).push (hes e hmem).1).push (hes e hmem).2))
     ·exact over
     ·exact l7 _
   ·exact l7 _
  ·exact l7 _
 ·exact l7 _
theorem c2H{x:Value}(hx:VP Z x):Sf Z P (VP Z) (Instr.entry x):=by
 unfold Instr.entry;split
 ·refine Sf.bind (U5 hx.fO) λo ho=>?_;split
  ·have hm:=ho.yg;split
   ·refine Sf.bind (U5 hm) λo ho=>?_;split
    ·have hes:=ho.jI;refine P5 _ (CO _ _ trivial) ?_
     ·split
      ·rename_i e he;have hmem:=lS he;exact Sf.pure (.tuple _ ((AP.nil.push (hes _ hmem).1).push (hes _ hmem).2))
      ·exact I4 _ trivial
    ·exact l7 _
   ·exact l7 _
  ·exact l7 _
 ·exact l7 _
theorem QM{l:Nat}(h:Z.D l):Sf Z P (sE Z) (Instr.getLoop l):=by
 unfold Instr.getLoop;refine Sf.bind (U5 h) λo ho=>?_;split
 ·cases ho;exact Sf.pure (by assumption)
 ·exact l7 _
theorem b0E(hP:POK Z P){l:Nat}(h:Z.D l):Sf Z P (λ_=>True) (Instr.beginRound l):=by
 unfold Instr.beginRound;refine Sf.bind (QM h) λr hr=>Sf.bind (zH h (.loop _ ⟨hr.pending,hr.fn,hr.tmps,hr.assign,hr.body,hr.defers⟩)) λ_ _=>?_;split
 ·exact Sf.pure trivial
 all_goals exact y7 hP _
theorem b4s{l:Nat}(h:Z.D l)(j:Option Code)(hj:∀c,j=some c->PU c):Sf Z P (VP Z) (Instr.endRound l j):=by
 unfold Instr.endRound;exact Sf.bind (QM h) λr hr=>Sf.bind (zH h (.loop _ ⟨hj,hr.fn,hr.tmps,hr.assign,hr.body,hr.defers⟩)) λ_ _=>Sf.pure (.bool _)
theorem b6m(hP:POK Z P){l:Nat}(h:Z.D l):Sf Z P (λj=>∀c,j=some c->PU c) (Instr.endLoop l):=by
 unfold Instr.endLoop;refine Sf.bind (QM h) λr hr=>?_;split
 ·exact Sf.bind (R:=λ_=>True) (y7 hP _) λ_ _=>Sf.bind (zH h (.loop _ ⟨hr.pending,hr.fn,hr.tmps,hr.assign,hr.body,hr.defers⟩)) λ_ _=>Sf.pure hr.pending
 ·exact Sf.bind (zH h (.loop _ ⟨hr.pending,hr.fn,hr.tmps,hr.assign,hr.body,hr.defers⟩)) λ_ _=>Sf.pure hr.pending
theorem az{l:Nat}(h:Z.D l):Sf Z P (λds=>ds=[]) (Instr.takeDeferred l):=by
 unfold Instr.takeDeferred;refine Sf.bind (U5 h) λo ho=>?_;split
 ·cases ho;exact Sf.bind (zH h .taken) λ_ _=>Sf.pure rfl
 ·exact l7 _
def iK(Z:Zone)(ds:List Deferred):Prop:=∀d∈ds,∃r,d={target:=.collected r,args:=#[]}/\Z.D r
theorem b2V{fn:FuncId}{tmps:Array Value}(ht:AP Z tmps)(params:Array Tmp){assign body:Code}(ha:eX Z assign)(hb:eX Z body){around:Option Nat}(har:∀l,around=some l->Z.D l):
 Sf Z P (λr=>Z.D r.1/\iK Z r.2) (Instr.enterLoop fn tmps params assign body around):=by
 unfold Instr.enterLoop;split
 ·refine Sf.bind (QM (har _ rfl)) λr hr=>Sf.bind (R:=λp:Nat×List Deferred=>Z.D p.1/\iK Z p.2) (Sf.pure ⟨hr.defers,by intro d hd;cases hd⟩) λp hp=>?_;exact Sf.bind (X0 (.loop _ ⟨by simp,trivial,ht,ha,hb,hp.1⟩)) λl hl=>Sf.pure ⟨hl,hp.2⟩
 ·refine Sf.bind (X0 .deferred) λr hr=>Sf.bind (R:=λp:Nat×List Deferred=>Z.D p.1/\iK Z p.2) (Sf.pure ⟨hr,by intro d hd;simp at hd;exact⟨r,hd,hr⟩⟩) λp hp=>?_;exact Sf.bind (X0 (.loop _ ⟨by simp,trivial,ht,ha,hb,hp.1⟩)) λl hl=>Sf.pure ⟨hl,hp.2⟩
theorem Zs(a:Addr)(n:Nat):Sf Z P (λ_=>True) (Builtin.holdsCells a n):=by
 unfold Builtin.holdsCells;refine Sf.bind (Y7 _) λs _=>?_;split<;>exact Sf.pure trivial
theorem Uc(x:Value):Sf Z P (λ_=>True) (Builtin.lenOf x):=by
 unfold Builtin.lenOf;split<;>first|exact Sf.pure trivial|exact l7 _
theorem Q_(size n:Nat){x:Value}(hx:VP Z x):Sf Z P (AP Z) (Builtin.firstCells size n x):=by
 unfold Builtin.firstCells
 cases hx with
 | slice a _ _ ha=>exact UQ ha _
 | gy=>exact Sf.pure AP.nil
 | string s=>exact Sf.pure (ZL _)
 | _=>exact l7 _
theorem dr{c:Array Value}(h:AP Z c)(n:Nat):AP Z (Builtin.zeroCells c n):=Ue h _
theorem O2(size l n:Nat)(base:Option Addr)(x:Value):Sf Z P (λ_=>True) (Builtin.mayShare size l n base x):=by
 unfold Builtin.mayShare
 have rest:∀c:Bool,Sf Z P (λ_=>True) (if (!c)=true then pure true else(match x with
  | .slice (some b) _ _=>(do let r <-Builtin.holdsCells b (n*size);pure (!r||base.any (·.block==b.block)):Sem Bool)
  | _=>pure false)):=λc=>by
  refine P5 _ (Sf.pure trivial) ?_;split
  ·exact Sf.bind (Zs _ _) λ_ _=>Sf.pure trivial
  ·exact Sf.pure trivial
 cases base with
 | none=>exact Sf.bind (R:=λ_=>True) (Sf.pure trivial) λr _=>rest r
 | some a=>exact Sf.bind (Zs _ _) λ_ _=>Sf.bind (QA _) λ_ _=>Sf.bind (R:=λ_=>True) (Sf.pure trivial) λr _=>rest r
end
section
variable{Z:Zone}{P:Program}
theorem J1:Sf Z P (λ_=>True) (mark .noRoom):=⟨trivial,trivial⟩
theorem sY{α:Type}{Q:α->Prop}(x:String):Sf Z P Q (unsupported (.resourceLimit x):Sem α):=trivial
theorem OP(hP:POK Z P)(zeros:Bool)(size n:Nat)(elem:TypeId){x:Value}(hx:VP Z x):
 Sf Z P (AP Z) (if (!zeros)=true then Builtin.firstCells size n x else if n*size=0 then pure #[] else do pure (Builtin.zeroCells (<-zeroValue elem).cells n)):=
 P5 _ (Q_ _ _ hx) (P5 _ (Sf.pure AP.nil) (Sf.bind (U1 hP _) λz hz=>Sf.pure (dr hz.cells _)))
theorem b9f(hP:POK Z P)(ts:Array TypeId)(t:TypeId){args:Array Value}(h:AP Z args):Sf Z P (VP Z) (Builtin.append_ ts t args):=by
 unfold Builtin.append_;split
 case h_2=>exact l7 _
 rename_i sT s x e;have e:=jK e;have e':=jK e.2;have hs:VP Z s:=h.get e'.1;have hx:VP Z x:=h.get e'.2;refine Sf.bind (o6 _) λd _=>?_;split
 case h_2=>exact l7 _
 rename_i elem;have hs0:=hs
 cases hs0 with
 | gy l c=>
  dsimp only
  repeat' first
   | with_reducible exact Sf.pure (.gy _ _)
   | with_reducible exact Sf.pure (.slice _ _ _ (by assumption))
   | with_reducible refine Sf.bind (J7 _) λ_ _=>?_
   | with_reducible refine Sf.bind (o6 _) λ_ _=>?_
   | with_reducible refine Sf.bind (J4 _) λ_ _=>?_
   | with_reducible refine Sf.bind (EF _) λ_ _=>?_
   | with_reducible refine Sf.bind (Uc _) λ_ _=>?_
   | with_reducible refine Sf.bind (O1 _) λ_ _=>?_
   | with_reducible refine Sf.bind (UF _) λ_ _=>?_
   | with_reducible refine Sf.bind (O2 _ _ _ _ _) λ_ _=>?_
   | with_reducible refine Sf.bind J1 λ_ _=>?_
   | with_reducible refine Sf.bind (U1 hP _) λ_ _=>?_
   | with_reducible refine Sf.bind (OP hP _ _ _ _ hx) λ_ _=>?_
   | with_reducible refine Sf.bind (Q_ _ _ hs) λ_ _=>?_
   | with_reducible refine Sf.bind (Vk (by rw[add_block];assumption) _ _ (AP.list (by assumption))) λ_ _=>?_
   | with_reducible refine Sf.bind (zG _ ((AP.append (by assumption) (by assumption)).append (dr (VP.cells (by assumption)) _))) λ_ _=>?_
   | with_reducible refine Sf.bind (R:=λ_=>True) (Sf.pure trivial) λ_ _=>?_
   | with_reducible refine Sf.bind (R:=λ_=>True) (y7 hP _) λ_ _=>?_
   | with_reducible exact sY _
   | with_reducible exact y7 hP _
   | with_reducible refine Sf.bind (R:=λ_=>True) (P5 _ (y7 hP _) ?_) λ_ _=>?_
   | with_reducible refine P5 _ ?_ ?_
   | split
 | slice a l c ha=>
  dsimp only
  repeat' first
   | with_reducible exact Sf.pure (.gy _ _)
   | with_reducible exact Sf.pure (.slice _ _ _ (by assumption))
   | with_reducible refine Sf.bind (J7 _) λ_ _=>?_
   | with_reducible refine Sf.bind (o6 _) λ_ _=>?_
   | with_reducible refine Sf.bind (J4 _) λ_ _=>?_
   | with_reducible refine Sf.bind (EF _) λ_ _=>?_
   | with_reducible refine Sf.bind (Uc _) λ_ _=>?_
   | with_reducible refine Sf.bind (O1 _) λ_ _=>?_
   | with_reducible refine Sf.bind (UF _) λ_ _=>?_
   | with_reducible refine Sf.bind (O2 _ _ _ _ _) λ_ _=>?_
   | with_reducible refine Sf.bind J1 λ_ _=>?_
   | with_reducible refine Sf.bind (U1 hP _) λ_ _=>?_
   | with_reducible refine Sf.bind (OP hP _ _ _ _ hx) λ_ _=>?_
   | with_reducible refine Sf.bind (Q_ _ _ hs) λ_ _=>?_
   | with_reducible refine Sf.bind (Vk (by rw[add_block];assumption) _ _ (AP.list (by assumption))) λ_ _=>?_
   | with_reducible refine Sf.bind (zG _ ((AP.append (by assumption) (by assumption)).append (dr (VP.cells (by assumption)) _))) λ_ _=>?_
   | with_reducible refine Sf.bind (R:=λ_=>True) (Sf.pure trivial) λ_ _=>?_
   | with_reducible refine Sf.bind (R:=λ_=>True) (y7 hP _) λ_ _=>?_
   | with_reducible exact sY _
   | with_reducible exact y7 hP _
   | with_reducible refine Sf.bind (R:=λ_=>True) (P5 _ (y7 hP _) ?_) λ_ _=>?_
   | with_reducible refine P5 _ ?_ ?_
   | split
 | _=>exact(trivial:dV (.stuck _))
end
section
variable{Z:Zone}{P:Program}
theorem b6n{α:Type}{Q:α->Prop}(x:String):Sf Z P Q (unsupported (.noEntry x):Sem α):=trivial
theorem NE(ts:Array TypeId)(t:TypeId){args:Array Value}(h:AP Z args):Sf Z P (VP Z) (Builtin.copy_ ts t args):=by
 unfold Builtin.copy_;split
 case h_2=>exact l7 _
 rename_i sT d x e;have e:=jK e;have e':=jK e.2;have hd:VP Z d:=h.get e'.1;have hx:VP Z x:=h.get e'.2;refine Sf.bind (o6 _) λd _=>?_;split
 case h_2=>exact l7 _
 cases hd with
 | gy l c=>exact Sf.bind (Uc _) λ_ _=>Sf.bind (J7 _) λ_ _=>Sf.bind (Q_ _ _ hx) λ_ _=>Sf.pure (.int _ _)
 | slice a l c ha=>exact Sf.bind (Uc _) λ_ _=>Sf.bind (J7 _) λ_ _=>Sf.bind (Q_ _ _ hx) λcs hc=>Sf.bind (Vk ha _ _ hc.list) λ_ _=>Sf.pure (.int _ _)
 | _=>exact(trivial:dV (.stuck _))
theorem G'(ts:Array TypeId)(t:TypeId){args:Array Value}(h:AP Z args):Sf Z P (VP Z) (Builtin.len_ ts t args):=by
 unfold Builtin.len_;split
 case h_2=>exact l7 _
 rename_i sT x e;have e:=jK e;have hx:VP Z x:=h.get e.2;refine Sf.bind (o6 _) λd _=>?_;split
 ·exact Sf.pure (.int _ _)
 ·exact Sf.pure (.int _ _)
 ·refine Sf.bind (o6 _) λd _=>?_;split
  ·exact Sf.pure (.int _ _)
  ·exact l7 _
 ·exact Sf.pure (.int _ _)
 ·exact Sf.pure (.int _ _)
 ·exact Sf.pure (.int _ _)
 ·refine Sf.bind (U5 hx.jI) λo ho=>?_;split
  ·exact Sf.pure (.int _ _)
  ·exact l7 _
 ·cases hx
 ·exact l7 _
theorem GT(ts:Array TypeId)(t:TypeId){args:Array Value}(h:AP Z args):Sf Z P (VP Z) (Builtin.cap_ ts t args):=by
 unfold Builtin.cap_;split
 case h_2=>exact l7 _
 rename_i sT x e;have e:=jK e;have hx:VP Z x:=h.get e.2;refine Sf.bind (o6 _) λd _=>?_;split
 ·exact Sf.pure (.int _ _)
 ·refine Sf.bind (o6 _) λd _=>?_;split
  ·exact Sf.pure (.int _ _)
  ·exact l7 _
 ·exact Sf.pure (.int _ _)
 ·exact Sf.pure (.int _ _)
 ·cases hx
 ·exact l7 _
theorem NB(x y:Value):Sf Z P (VP Z) (Builtin.max2 x y):=by
 unfold Builtin.max2;split
 ·exact Sf.pure (.int _ _)
 ·split
  ·exact Sf.bind (O1 _) λ_ _=>Sf.pure (.float _ _)
  all_goals exact Sf.pure (.float _ _)
 ·exact Sf.bind (cS _ _ _) λv _=>Sf.bind (Um _) λb _=>Sf.pure (.string _)
 ·exact I4 _ trivial
 ·exact I4 _ trivial
 ·exact l7 _
theorem M'(x y:Value):Sf Z P (VP Z) (Builtin.min2 x y):=by
 unfold Builtin.min2;split
 ·exact Sf.pure (.int _ _)
 ·split
  ·exact Sf.bind (O1 _) λ_ _=>Sf.pure (.float _ _)
  all_goals exact Sf.pure (.float _ _)
 ·exact Sf.bind (cS _ _ _) λv _=>Sf.bind (Um _) λb _=>Sf.pure (.string _)
 ·exact I4 _ trivial
 ·exact I4 _ trivial
 ·exact l7 _
theorem J0{f:Value->Value->Sem Value}(hf:∀x y,Sf Z P (VP Z) (f x y)):∀(l:List Value)(x:Value),VP Z x->Sf Z P (VP Z) (l.foldlM f x):=by
 intro l
 induction l with
 | nil=>intro x hx;exact Sf.pure hx
 | cons y l ih=>intro x hx;rw[zM];exact Sf.bind (hf _ _) λz hz=>ih z hz
theorem GM(ts:Array TypeId)(t:TypeId){args:Array Value}(h:AP Z args):Sf Z P (VP Z) (Builtin.max_ ts t args):=by
 unfold Builtin.max_;split
 ·exact l7 _
 ·rename_i x l e;exact J0 NB _ _ (h.list x (by rw[e];simp))
theorem GG(ts:Array TypeId)(t:TypeId){args:Array Value}(h:AP Z args):Sf Z P (VP Z) (Builtin.min_ ts t args):=by
 unfold Builtin.min_;split
 ·exact l7 _
 ·rename_i x l e;exact J0 M' _ _ (h.list x (by rw[e];simp))
theorem a5I(ts:Array TypeId)(t:TypeId){args:Array Value}(h:AP Z args):Sf Z P (VP Z) (Builtin.unsafeSliceData_ ts t args):=by
 obtain⟨l⟩:=args;rcases l with _|⟨x,_|⟨y,l⟩⟩
 ·exact l7 _
 ·have hx:VP Z x:=h _ (by simp)
  cases hx with
  | gy=>exact Sf.pure .jc
  | slice a n c ha=>
   unfold Builtin.unsafeSliceData_
   refine P5 _ (Sf.pure (.ptr _ ha)) (Sf.bind (Ul ha) λo _=>P5 _ (Sf.pure (.ptr _ ha)) (Sf.bind (EM _) λe _=>Sf.bind (X0 (.view _ _ ha)) λr hr=>Sf.pure (.ptr _ hr)))
  | _=>exact(trivial:dV (.stuck _))
 ·cases x with
  | slice a n c=>cases a<;>exact(trivial:dV (.stuck _))
  | _=>exact(trivial:dV (.stuck _))
theorem a8A(hP:POK Z P)(ts:Array TypeId)(t:TypeId){args:Array Value}(h:AP Z args):Sf Z P (VP Z) (Builtin.unsafeString_ ts t args):=by
 obtain⟨l⟩:=args;rcases l with _|⟨x,_|⟨y,_|⟨z,l⟩⟩⟩
 ·exact l7 _
 ·cases x<;>exact(trivial:dV (.stuck _))
 ·have hx:VP Z x:=h _ (by simp);have main:∀p,VP Z (.pointer p)->Sf Z P (VP Z) (Builtin.unsafeString_ ts t #[.pointer p,y]):=λp hp=>by
   unfold Builtin.unsafeString_;refine Sf.bind (EF _) λn _=>?_;split
   case h_2=>exact l7 _
   refine P5 _ (Sf.bind (R:=λ_=>True) (y7 hP _) λ_ _=>?_) (P5 _ (CO _ _ trivial) ?_)
   ·refine P5 _ (CO _ _ trivial) ?_
    cases p with
    | none=>exact P5 _ (Sf.pure (.string _)) (y7 hP _)
    | some a=>
     refine P5 _ (Sf.pure (.string _)) (Sf.bind (EM _) λe _=>Sf.bind (eL _ _ _) λb _=>P5 _ (Sf.bind (Wa hp.fO _ _) λs _=>Sf.bind (Un _ _) λ_ _=>Sf.pure (.string _)) (I4 _ trivial))
   ·cases p with
    | none=>exact P5 _ (Sf.pure (.string _)) (y7 hP _)
    | some a=>
     refine P5 _ (Sf.pure (.string _)) (Sf.bind (EM _) λe _=>Sf.bind (eL _ _ _) λb _=>P5 _ (Sf.bind (Wa hp.fO _ _) λs _=>Sf.bind (Un _ _) λ_ _=>Sf.pure (.string _)) (I4 _ trivial))
  cases x with
  | pointer p=>exact main p hx
  | _=>exact(trivial:dV (.stuck _))
 ·cases x<;>exact(trivial:dV (.stuck _))
theorem a5f(ts:Array TypeId)(t:TypeId){args:Array Value}(h:AP Z args):Sf Z P (VP Z) (Builtin.unsafeStringData_ ts t args):=by
 obtain⟨l⟩:=args;rcases l with _|⟨x,_|⟨y,l⟩⟩
 ·exact l7 _
 ·cases x with
  | string s=>
   unfold Builtin.unsafeStringData_
   refine P5 _ (Sf.bind (O1 _) λc _=>P5 _ (Sf.pure .jc) (Sf.bind (EM _) λe _=>Sf.bind (zG _ AP.nil) λa ha=>Sf.bind (eM _) λ_ _=>Sf.pure (.ptr _ ha))) (Sf.bind (EM _) λe _=>Sf.bind (zG _ (ZL _)) λa ha=>Sf.bind (Un _ _) λ_ _=>Sf.pure (.ptr _ ha))
  | _=>exact(trivial:dV (.stuck _))
 ·cases x<;>exact(trivial:dV (.stuck _))
inductive Vz(Z:Zone):Target->Prop
 | fn (fn:Fn) (c:Array Value) (h:xJ Z fn) (hc:AP Z c):Vz Z (.fn fn c)
 | nil:Vz Z .nil
 | builtin (b:Builtin) (ts:Array TypeId) (t:TypeId) (cs:Array Bool) (h:SY b=true):Vz Z (.builtin b ts t cs)
def DP(Z:Zone)(d:Deferred):Prop:=Vz Z d.target/\AP Z d.args
inductive rQ(Z:Zone):Next->Prop
 | value (v:Value) (h:VP Z v):rQ Z (.value v)
 | skip:rQ Z .skip
 | enter (f:FuncId) (args:Array Value) (h:Z.F f) (ha:AP Z args):rQ Z (.enter f args)
 | round (l:Nat) (f:FuncId) (tmps:Array Value) (assign body:Code) (h:Z.D l) (ht:AP Z tmps) (ha:eX Z assign) (hb:eX Z body):rQ Z (.round l f tmps assign body)
theorem kR{s:Sem Value}(h:Sf Z P (VP Z) s):Sf Z P (rQ Z) (do pure (.value (<-s))):=Sf.bind h λv hv=>Sf.pure (.value _ hv)
theorem SL{s:Sem Unit}(h:Sf Z P (λ_=>True) s):Sf Z P (rQ Z) (do s;pure .skip):=Sf.bind h λ_ _=>Sf.pure .skip
structure qo(Z:Zone)(P:Program):Prop extends POK Z P where
 num:∀f fn,Z.F f->P.funcs[f]?=some fn->(fn.name== "runtime.NumGoroutine")=false
 ext:∀f fn,Z.F f->P.funcs[f]?=some fn->fn.body=none->(∀e args,Extern.findNext fn=some e->AP Z args->Sf Z P (rQ Z) (e args))/\(∀e args,Extern.find fn=some e->AP Z args->Sf Z P (VP Z) (e args))
 code:∀f fn c,Z.F f->P.funcs[f]?=some fn->fn.body=some c->eX Z c
theorem b6o(hP:POK Z P)(b:Builtin)(hb:SY b=true)(ts:Array TypeId)(t:TypeId)(cs:Array Bool){args:Array Value}(h:AP Z args):Sf Z P (rQ Z) (builtin b ts t cs args):=by
 unfold builtin
 cases b<;>first
  | exact kR (b9f hP _ _ h)
  | exact kR (GT _ _ h)
  | exact kR (NE _ _ h)
  | exact kR (b9e hP _ _ h)
  | exact kR (G' _ _ h)
  | exact kR (GM _ _ h)
  | exact kR (GG _ _ h)
  | exact kR (BE hP _)
  | exact kR (a5I _ _ h)
  | exact kR (a8A hP _ _ h)
  | exact kR (a5f _ _ h)
  | cases hb
theorem ON(hP:qo Z P){f:FuncId}(hf:Z.F f){args:Array Value}(h:AP Z args):Sf Z P (rQ Z) (callFunc f args):=by
 unfold callFunc;refine Sf.bind F9 ?_;rintro p rfl
 cases hfn:p.funcs[f]? with
 | none=>exact l7 _
 | some fn=>
  dsimp only;rw[hP.num f fn hf hfn];rw[if_neg (by simp)]
  cases hb:fn.body with
  | some c=>
   rw[if_neg (by simp)]
   exact Sf.pure (.enter _ _ hf h)
  | none=>
   obtain⟨h1,h2⟩:=hP.ext f fn hf hfn hb;rw[if_pos (by simp)];refine Sf.bind (R:=λ_=>True) ⟨trivial,trivial⟩ λ_ _=>?_
   cases hn:Extern.findNext fn with
   | some e=>exact h1 e args hn h
   | none=>
    dsimp only
    cases hx:Extern.find fn with
    | some e=>exact Sf.bind (h2 e args hx h) λv hv=>Sf.pure (.value _ hv)
    | none=>exact P5 _ (Sf.pure (.value _ (.tuple _ AP.nil))) (I4 _ trivial)
def Rj(Z:Zone):Place->Prop
 | .val v=>VP Z v
 | .var a=>Z.D a.block
theorem Qc(t:TypeId){x:Place}(h:Rj Z x):Sf Z P (VP Z) (x.get t):=by
 cases x with
 | val v=>exact Sf.pure h
 | var a=>exact EK t h
theorem b9g(hP:POK Z P):∀(l:List FieldStep)(t:TypeId)(x:Place),Rj Z x->Sf Z P (λr=>Rj Z r.2) (follow l t x):=by
 intro l
 induction l with
 | nil=>intro t x h;exact Sf.pure h
 | cons s l ih=>
  intro t x h;unfold follow;refine Sf.bind (o6 _) λd _=>?_;split
  ·split
   ·split
    ·exact Sf.bind (Qc t h) λv hv=>Sf.bind (Ku hP hv) λa ha=>Sf.bind (eB ha _) λb hb=>ih _ _ hb
    ·split
     ·exact Sf.bind (eB h _) λb hb=>ih _ _ hb
     ·exact Sf.bind (uX _ (VP.kE h) _) λb hb=>ih _ _ hb
     ·exact l7 _
   ·exact l7 _
  ·exact l7 _
theorem M3(hP:POK Z P)(t u:TypeId){v:Value}(hv:VP Z v)(a b:String):Sf Z P (VP Z) (Builtin.ssaWrapNilChk_ #[t] u #[v,strVal a,strVal b]):=by
 unfold Builtin.ssaWrapNilChk_
 cases hv with
 | ptr a ha=>exact Sf.pure (.ptr _ ha)
 | jc=>
  refine Sf.bind (O1 (.extern "ssa:wrapnilchk.dereferenced" 2)) λc _=>?_;dsimp only
  repeat' first
   | with_reducible refine Sf.bind (o6 _) λ_ _=>?_
   | with_reducible refine Sf.bind (J4 _) λ_ _=>?_
   | with_reducible refine Sf.bind (R:=λ_=>True) (y7 hP _) λ_ _=>?_
   | with_reducible exact y7 hP _
   | with_reducible exact l7 _
   | with_reducible exact b6n _
   | with_reducible refine P5 _ ?_ ?_
   | split
 | _=>exact(trivial:dV (.stuck _))
theorem b0F(hP:POK Z P)(t:TypeId){x:Place}(h:Rj Z x)(pr:Bool)(w:Option String):Sf Z P (VP Z) (receiverAt t x pr w):=by
 unfold receiverAt;refine Sf.bind (o6 _) λd _=>?_;split
 ·exact Qc _ h
 ·refine Sf.bind (Qc _ h) λv hv=>?_;split
  ·exact Sf.bind (M3 hP _ _ hv _ _) λv hv=>Sf.bind (Ku hP hv) λa ha=>EK _ ha
  ·exact Sf.bind (R:=VP Z) (Sf.pure hv) λv hv=>Sf.bind (Ku hP hv) λa ha=>EK _ ha
 ·exact Sf.pure (.ptr _ h)
 ·exact l7 _
 ·exact Qc _ h
theorem b9h(hP:POK Z P){name:String}(hn:Z.N name):∀(n:Nat)(t:TypeId)(v:Value),Z.T t->VP Z v->Sf Z P (λr=>Z.F r.1/\VP Z r.2) (method n t v name):=by
 intro n
 induction n with
 | zero=>intro t v _ _;exact I4 _ trivial
 | succ n ih=>
  intro t v ht hv;unfold method;refine Sf.bind (J4 _) λi hi=>?_;split
  ·rename_i m hm;have hmem:=lS hm;have hname:m.name=name:=by have:=Array.find?_some hm;simpa using this
   refine Sf.bind (b9g hP _ _ _ (show Rj Z (.val v) from hv)) λr hr=>?_;obtain⟨xt,x⟩:=r;dsimp only;split
   ·refine Sf.bind (Qc _ hr) λw hw=>?_;split
    ·exact ih _ _ hw.jD.1 hw.jD.2
    ·exact y7 hP _
    ·exact l7 _
   ·rename_i f pr hf;exact Sf.bind (b0F hP _ hr _ _) λw hw=>Sf.pure ⟨hP.methods t i ht hi m hmem (hname▸hn) f pr hf,hw⟩
  ·exact l7 _
theorem b0G(hP:qo Z P){recv:Value}(hr:VP Z recv){name:String}(hn:Z.N name){args:Array Value}(h:AP Z args):Sf Z P (rQ Z) (callMethod recv name args):=by
 unfold callMethod
 cases hr with
 | iface t v ht hv=>
  refine Sf.bind F9 λp _=>Sf.bind (b9h hP.toPOK hn _ _ _ ht hv) λr hr=>?_;obtain⟨f,w⟩:=r
  exact ON hP hr.1 ((AP.one hr.2).append h)
 | nilIface=>exact y7 hP.toPOK _
 | _=>exact(trivial:dV (.stuck _))
theorem b9i:∀(l:List (Tmp×Value)),(∀p∈l,VP Z p.2)->∀c:Array Value,AP Z c->AP Z (l.foldl (λc(p:Tmp×Value)=>c.setIfInBounds p.1 p.2) c):=by
 intro l
 induction l with
 | nil=>intro _ c h;exact h
 | cons p l ih=>intro hl c h;exact ih (λq hq=>hl q (by simp[hq])) _ (h.set _ (hl p (by simp)))
theorem c2J{l:Nat}(hl:Z.D l){args:Array Value}(h:AP Z args):Sf Z P (rQ Z) (Instr.yield l args):=by
 unfold Instr.yield;refine Sf.bind (QM hl) λr hr=>?_;refine P5 _ (by trivial) (Sf.pure (.round _ _ _ _ _ hl ?_ hr.assign hr.body));rw[<-lU,Array.toList_zip];refine b9i _ (λp hp=>?_) _ hr.tmps;obtain⟨a,b⟩:=p;exact h.list b (List.of_mem_zip hp).2
theorem I6(hP:qo Z P){d:Deferred}(h:DP Z d):Sf Z P (rQ Z) (invoke d.target d.args):=by
 obtain⟨t,args⟩:=d;obtain⟨ht,ha⟩:=h;dsimp only at ht ha⊢;unfold invoke
 cases ht with
 | nil=>exact y7 hP.toPOK _
 | builtin b ts t cs hb=>exact b6o hP.toPOK b hb ts t cs ha
 | fn fn c hf hc=>
  cases hf with
  | func f hf=>exact ON hP hf (ha.append hc)
  | method n hn=>
   dsimp only
   cases e:args[0]? with
   | none=>exact l7 _
   | some recv=>exact b0G hP (ha.get e) hn (ha.extract _ _)
  | yield l hl=>exact c2J hl ha
theorem b6p{f:Value}(hf:VP Z f){args:Array Value}(h:AP Z args):Sf Z P (DP Z) (Deferred.ofValue f args):=by
 unfold Deferred.ofValue
 cases hf with
 | func fn a c hfn ha hc=>exact Sf.pure ⟨.fn _ _ hfn hc,AP.append ha h⟩
 | nilFunc=>exact Sf.pure ⟨.nil,h⟩
 | _=>exact(trivial:dV (.stuck _))
theorem M6{ρ:Operand->Value}{c:Call}(hρ:∀x∈c.operands,VP Z (ρ x))(hc:JV Z c.callee)(t:TypeId):Sf Z P (DP Z) (resolve ρ c t):=by
 unfold resolve;have hargs:AP Z (c.args.map ρ):=λv hv=>by
  obtain⟨x,hx,rfl⟩:=gI.1 hv;exact hρ x (by unfold Call.operands;simp[hx])
 dsimp only
 cases e:c.callee with
 | builtin b=>rw[e] at hc;exact Sf.pure ⟨.builtin _ _ _ _ hc,hargs⟩
 | invoke r n=>rw[e] at hc;exact Sf.pure ⟨.fn _ _ (.method n hc) AP.nil,(AP.one (hρ r (by unfold Call.operands;simp[e]))).append hargs⟩
 | value f=>exact b6p (hρ f (by unfold Call.operands;simp[e])) hargs
theorem a9V:∀(l:List FieldStep)(t:TypeId)(x:Option Value),(∀v,x=some v->VP Z v)->Sf Z P (λr=>∀t' v,r=.ok (t',some v)->VP Z v) (followBlind l t x):=by
 intro l
 induction l with
 | nil=>intro t x h;exact Sf.pure (by rintro _ _ ⟨⟩;exact h _ rfl)
 | cons s l ih=>
  intro t x h;unfold followBlind;refine Sf.bind (o6 _) λd _=>?_;split
  ·split
   ·split
    ·exact Sf.pure (by simp)
    ·exact ih _ _ (by simp)
    ·exact l7 _
    ·exact Sf.pure (by simp)
    ·exact Sf.bind (uX _ (VP.kE (h _ rfl)) _) λb hb=>ih _ _ (by rintro _ ⟨⟩;exact hb)
    ·exact l7 _
    ·exact ih _ _ (by simp)
   ·exact l7 _
  ·exact l7 _
theorem b4t{name:String}:∀(n:Nat)(t:TypeId)(v:Value),VP Z v->Sf Z P (λ_=>True) (nilAhead n t v name):=by
 intro n
 induction n with
 | zero=>intro t v _;exact Sf.pure trivial
 | succ n ih=>
  intro t v hv;unfold nilAhead;refine Sf.bind (J4 _) λi hi=>?_;split
  ·refine Sf.bind (a9V _ _ _ (by rintro _ ⟨⟩;exact hv)) λr hr=>?_;split
   ·exact Sf.pure trivial
   ·split
    ·exact ih _ _ (hr _ _ rfl).jD.2
    ·exact Sf.pure trivial
    ·exact l7 _
    ·exact Sf.pure trivial
    ·exact Sf.pure trivial
    ·refine Sf.bind (o6 _) λd _=>?_;split<;>exact Sf.pure trivial
  ·exact l7 _
end
section
variable{Z:Zone}{P:Program}
theorem oP(hP:qo Z P){ρ:Operand->Value}{o:Oper}(hk:dp Z o.op)(hρ:∀x∈o.op.operands,VP Z (ρ x)):Sf Z P (rQ Z) (execOp ρ o):=by
 obtain⟨dst,op,type,pos,after,guard⟩:=o;dsimp only at hk hρ;have hv:∀x,x∈op.operands->VP Z (ρ x):=hρ;unfold execOp
 cases op with
 | move x=>exact Sf.pure (.value _ (hv x (by simp[Op.operands])))
 | assign x=>exact Sf.pure (.value _ (hv x (by simp[Op.operands])))
 | pick c a b=>
  refine Sf.bind (Um _) λt _=>Sf.pure (.value _ ?_);split
  ·exact hv a (by simp[Op.operands])
  ·exact hv b (by simp[Op.operands])
 | alloc e=>exact kR (c2w hP.toPOK _)
 | box e x=>exact kR (Ha _ (hv x (by simp[Op.operands])))
 | build t ps=>
  refine kR (c2y hP.toPOK _ λp hp=>?_);obtain⟨q,hq,rfl⟩:=gI.1 hp;obtain⟨i,x⟩:=q
  exact hv x (by simp[Op.operands];exact⟨i,hq⟩)
 | buildSlice t l ps=>
  refine kR (b0y hP.toPOK _ _ λp hp=>?_);obtain⟨q,hq,rfl⟩:=gI.1 hp;obtain⟨i,x⟩:=q
  exact hv x (by simp[Op.operands];exact⟨i,hq⟩)
 | load t a=>exact kR (b9a _ (hv a (by simp[Op.operands])))
 | store t a x=>exact SL (b6b _ (hv a (by simp[Op.operands])) (hv x (by simp[Op.operands])))
 | ready g=>exact hk.elim
 | waits g=>exact hk.elim
 | nilCheck x=>
  have h:=hv x (by simp[Op.operands]);dsimp only;generalize ρ x=v at h
  cases h with
  | jc=>exact y7 hP.toPOK _
  | nilIface=>exact y7 hP.toPOK _
  | nilFunc=>exact y7 hP.toPOK _
  | func fn f c hf ha hc=>
   cases hf with
   | method n hn=>
    dsimp only;split
    ·exact y7 hP.toPOK _
    ·rename_i e;refine Sf.bind F9 λp _=>Sf.bind (b4t _ _ _ (VP.jD (AP.get ha e)).2) λr _=>?_;exact P5 _ (CO _ _ trivial) (Sf.pure (.value _ (.func _ _ _ (.method n hn) ha hc)))
    ·exact Sf.pure (.value _ (.func _ _ _ (.method n hn) ha hc))
   | func g hg=>exact Sf.pure (.value _ (.func _ _ _ (.func g hg) ha hc))
   | yield l hl=>exact Sf.pure (.value _ (.func _ _ _ (.yield l hl) ha hc))
  | iface t w ht hw=>exact Sf.pure (.value _ (.iface _ _ ht hw))
  | ptr a ha=>exact Sf.pure (.value _ (.ptr _ ha))
  | _=>exact Sf.pure (.value _ (by constructor<;>assumption))
 | binOp op t x y u=>exact kR (Sf.bind (b6i _ _ _ _ (hv x (by simp[Op.operands])) (hv y (by simp[Op.operands]))) λ_ _=>c2E hP.toPOK _ _ (hv x (by simp[Op.operands])) (hv y (by simp[Op.operands])))
 | unOp op t x=>exact kR (c2C _ _)
 | convert s d x=>exact kR (b6k _ _ (hv x (by simp[Op.operands])))
 | sliceToArrayPointer=>exact hk.elim
 | makeInterface t x=>exact kR (a7r _ hk (hv x (by simp[Op.operands])))
 | makeFunc fn f c=>
  refine kR (b4o hk (λv h=>?_) (λv h=>?_))
  ·obtain⟨x,hx,rfl⟩:=gI.1 h;exact hv x (by simp[Op.operands,hx])
  ·obtain⟨x,hx,rfl⟩:=gI.1 h;exact hv x (by simp[Op.operands,hx])
 | makeMap t r=>exact kR (b6f _ _)
 | makeChan=>exact hk.elim
 | makeSlice t l c=>exact kR (b2S hP.toPOK _ _ _)
 | slice t x l h m=>exact kR (b6e hP.toPOK _ (hv x (by simp[Op.operands])) _ _ _)
 | fieldAddr s x f=>exact kR (b6c _ (hv x (by simp[Op.operands])) _)
 | field t x f=>exact kR (c2A _ (hv x (by simp[Op.operands])) _)
 | indexAddr t x i=>exact kR (b6d hP.toPOK _ (hv x (by simp[Op.operands])) _)
 | index t x i=>exact kR (c2B hP.toPOK _ (hv x (by simp[Op.operands])) _)
 | lookup t x i ok=>exact kR (b9d hP.toPOK _ (hv x (by simp[Op.operands])) (hv i (by simp[Op.operands])) _)
 | mapUpdate t m k x=>exact SL (X2 hP.toPOK _ (hv m (by simp[Op.operands])) (hv k (by simp[Op.operands])) (hv x (by simp[Op.operands])))
 | insert t m k x=>exact SL (X2 hP.toPOK _ (hv m (by simp[Op.operands])) (hv k (by simp[Op.operands])) (hv x (by simp[Op.operands])))
 | mapEntry=>exact hk.elim
 | entryStore=>exact hk.elim
 | range t x=>exact kR (c2G _ (hv x (by simp[Op.operands])))
 | next x s=>exact kR (NF (hv x (by simp[Op.operands])) _ _)
 | entry x=>exact kR (c2H (hv x (by simp[Op.operands])))
 | typeAssert x t u ok=>exact kR (b0A hP.toPOK (hv x (by simp[Op.operands])) _ _ _)
 | extract x i=>exact kR (b6g (hv x (by simp[Op.operands])) _)
 | call c=>exact Sf.bind (M6 (λx h=>hρ x (by simpa [Op.operands] using h)) hk _) λd hd=>I6 hP hd
 | go=>exact hk.elim
 | defer=>exact hk.elim
 | panic x=>exact kR (BE hP.toPOK _)
 | send=>exact hk.elim
 | recv=>exact hk.elim
 | select=>exact hk.elim
end
end Go.Zn
namespace Go.Zn
def tp(w:World)(τ:Nat->Question->Nat)(p:Nat):World:={w with tape:=τ,drawn:=p}
@[simp] theorem Hf (w:World) (τ:Nat->Question->Nat) (p:Nat):(tp w τ p).heap=w.heap:=rfl
@[simp] theorem c2O (w:World) (τ:Nat->Question->Nat) (p:Nat):(tp w τ p).drawn=p:=rfl
@[simp] theorem JS (w:World) (τ:Nat->Question->Nat) (p:Nat):(tp w τ p).tape = τ:=rfl
@[simp] theorem nO (w:World) (τ τ':Nat->Question->Nat) (p p':Nat):tp (tp w τ p) τ' p'=tp w τ' p':=rfl
theorem gJ(w:World):tp w w.tape w.drawn=w:=rfl
def Agree(w:World)(k:Nat)(τ:Nat->Question->Nat)(p:Nat):Prop:=∀j,j<k->∀q,τ (p+j) q=w.tape (w.drawn+j) q
end Go.Zn
namespace Go
def Result.tp{α:Type}(r:Result α)(τ:Nat->Question->Nat)(p:Nat):Result α:=match r with
 | .ok a u=>.ok a (Zn.tp u τ p)
 | .halt h u=>.halt h (Zn.tp u τ p)
end Go
namespace Go.Zn
structure Asks(w u:World)(k:Nat):Prop where
 drawn:u.drawn=w.drawn+k
 tape:u.tape=w.tape
theorem Asks.zero{w u:World}(h:u.drawn=w.drawn)(h':u.tape=w.tape):Asks w u 0:=⟨h,h'⟩
theorem Asks.trans{w v u:World}{k m:Nat}(h:Asks w v k)(h':Asks v u m):Asks w u (k+m):=⟨by rw[h'.drawn,h.drawn];omega,h'.tape.trans h.tape⟩
theorem Agree.left{w:World}{k m:Nat}{τ:Nat->Question->Nat}{p:Nat}(h:Agree w (k+m) τ p):Agree w k τ p:=λj hj q=>h j (by omega) q
theorem Agree.right{w v:World}{k m:Nat}{τ:Nat->Question->Nat}{p:Nat}(h:Agree w (k+m) τ p)(a:Asks w v k):Agree v m τ (p+k):=λj hj q=>by
 rw[a.tape,a.drawn,jF,jF];exact h (k+j) (by omega) q
theorem JP(w:World):∃r,∀τ p,(tp w τ p).sys .env=(r,tp w τ p):=by
 refine⟨(w.sys .env).1,λτ p=>rfl⟩
theorem b2Z(P:Program)(w:World)(at0:Addr)(u:TypeId)(a:Addr)(v:Value)(b:Bool)(τ:Nat->Question->Nat)(p:Nat):
 (tp w τ p).viewStore P at0 u a v b=(w.viewStore P at0 u a v b).map λx=>(tp x.1 τ p,x.2):=by
 unfold World.viewStore;by_cases ht:(!tight P P.depth u)=true
 ·rw[if_pos ht,if_pos ht];rfl
 rw[if_neg ht,if_neg ht];rw[show(tp w τ p).seen P at0 u a b=w.seen P at0 u a b from rfl]
 cases w.seen P at0 u a b with
 | error x=>rfl
 | ok x=>
  obtain⟨c,e,fr,first,like,cells⟩:=x;simp only[bind,Except.bind]
  cases v.bytes? with
  | none=>rfl
  | some bytes=>
   dsimp only;by_cases hl:some bytes.length≠like.bytes?.map (·.length)
   ·rw[if_pos hl,if_pos hl];rfl
   ·rw[if_neg hl,if_neg hl];split
    ·rfl
    ·rfl
theorem OF(P:Program)(w:World)(a:Addr)(v:Value)(b:Bool)(τ:Nat->Question->Nat)(p:Nat):
 (tp w τ p).farStore P a v b=(w.farStore P a v b).map λx=>(tp x.1 τ p,x.2):=by
 unfold World.farStore;rw[Hf]
 cases w.heap[a.block]? with
 | none=>rfl
 | some o=>
  cases o with
  | view at0 u=>
   dsimp only;rw[b2Z]
   cases w.viewStore P at0 u a v b<;>rfl
  | _=>rfl
section
variable{Z:Zone}{P:Program}
def Fam(P:Program){α:Type}(s:Sem α)(w:World)(es:Array Event):Prop:=
 ∃k,Asks w (s.runT P w es).1.w k/\∀τ p,Agree w k τ p->s.runT P (tp w τ p) es=((s.runT P w es).1.tp τ (p+k),(s.runT P w es).2)
theorem Fam.next{α:Type}{s t:Sem α}{w v:World}{es es':Array Event}{m:Nat}(h:Fam P t v es')(a:Asks w v m)(e:s.runT P w es=t.runT P v es')(e':∀τ p,Agree w m τ p->s.runT P (tp w τ p) es=t.runT P (tp v τ (p+m)) es'):Fam P s w es:=by
 obtain⟨k,h1,h2⟩:=h;refine⟨m+k,?_,λτ p hA=>?_⟩
 ·rw[e];exact a.trans h1
 ·rw[e' τ p hA.left,e,h2 τ (p+m) (hA.right a),jF]
theorem Fam.halt{α:Type}{s:Sem α}{w:World}{es es':Array Event}{h:Halt}(e:s.runT P w es=(.halt h w,es'))(e':∀τ p,s.runT P (tp w τ p) es=(.halt h (tp w τ p),es')):Fam P s w es:=
 ⟨0,by rw[e];exact⟨rfl,rfl⟩,λτ p _=>by rw[e',e];rfl⟩
theorem Sf.fam(hY:∀b,Z.Y b){α:Type}{Q:α->Prop}{s:Sem α}(h:Sf Z P Q s){w:World}(hW:WP Z w)(es:Array Event):Fam P s w es:=by
 induction s generalizing w es with
 | halt x=>exact .halt rfl λ_ _=>rfl
 | pure x=>exact⟨0,⟨rfl,rfl⟩,λτ p _=>rfl⟩
 | load m a k ih=>
  obtain⟨hD,hk⟩:=h
  cases hc:w.cell? a with
  | some v=>
   exact Fam.next (m:=0) (ih v (hk v (hW.cell hD hc).1) hW (es.push ⟨.cell a,false,m==.atomic⟩)) ⟨rfl,rfl⟩ (by simp only[Sem.runT,hc]) λτ p _=>by
    have hc':(tp w τ p).cell? a=some v:=hc
    simp only[Sem.runT,hc'];rfl
  | none=>
   have hc':∀τ p,(tp w τ p).cell? a=none:=λ_ _=>hc
   cases hf:w.farLoad P a (m==.atomic) with
   | error x=>
    have hf':∀τ p,(tp w τ p).farLoad P a (m==.atomic)=.error x:=λ_ _=>hf
    exact .halt (h:=x) (es':=es) (by simp only[Sem.runT,hc,hf]) λτ p=>by simp only[Sem.runT,hc',hf']
   | ok r=>
    obtain⟨v,l⟩:=r;have hf':∀τ p,(tp w τ p).farLoad P a (m==.atomic)=.ok (v,l):=λ_ _=>hf
    exact Fam.next (m:=0) (ih v (hk v (hW.far hD hf).1) hW (es++l.toArray.map (⟨.cell ·,false,m==.atomic⟩))) ⟨rfl,rfl⟩ (by simp only[Sem.runT,hc,hf]) λτ p _=>by simp only[Sem.runT,hc',hf'];rfl
 | store m a v k ih=>
  obtain⟨rfl,hD,hv,hk⟩:=h
  have e1:(∀w es,(Sem.store Mode.plain a v k).runT P w es=(.halt (.stuck "store: not the value of one cell") w,es))\/(∀w es,(Sem.store Mode.plain a v k).runT P w es=match w.cell? a with
   | some _=>if w.frozen? a then(.halt (.unsupported (.unsafePointer "a write to bytes that a string shares")) w,es) else k.runT P (w.setCell a v) (es.push ⟨.cell a,true,Mode.plain==.atomic⟩)
   | none=>match w.farStore P a v (Mode.plain==.atomic) with
    | .ok (w,touched)=>k.runT P w (es++touched.toArray.map (⟨.cell ·,true,Mode.plain==.atomic⟩))
    | .error h=>(.halt h w,es)):=by
   cases v<;>first|exact .inl λ_ _=>rfl|exact .inr λ_ _=>rfl
  rcases e1 with e1|e1
  ·exact .halt (e1 _ _) λ_ _=>e1 _ _
  ·cases hc:w.cell? a with
   | some y=>
    have hc':∀τ p,(tp w τ p).cell? a=some y:=λ_ _=>hc;by_cases hf:w.frozen? a=true
    ·have hf':∀τ p,(tp w τ p).frozen? a=true:=λ_ _=>hf;exact .halt (h:=.unsupported (.unsafePointer "a write to bytes that a string shares")) (es':=es) (by rw[e1,hc];simp only[hf,if_true]) λτ p=>by rw[e1,hc'];simp only[hf',if_true]
    ·have hf':∀τ p,¬(tp w τ p).frozen? a=true:=λ_ _=>hf;refine Fam.next (m:=0) (ih hk (hW.setCell (a:=a) hv) (es.push ⟨.cell a,true,Mode.plain==.atomic⟩)) ⟨rfl,rfl⟩ (by rw[e1,hc];dsimp only;rw[if_neg hf]) λτ p _=>?_
     rw[e1,hc'];dsimp only;rw[if_neg (hf' τ p)];rfl
   | none=>
    have hc':∀τ p,(tp w τ p).cell? a=none:=λ_ _=>hc
    cases hf:w.farStore P a v (Mode.plain==.atomic) with
    | error x=>exact .halt (h:=x) (es':=es) (by rw[e1,hc];dsimp only;rw[hf]) λτ p=>by rw[e1,hc'];dsimp only;rw[OF,hf];rfl
    | ok r=>
     obtain⟨w',l⟩:=r;have hd:w'.drawn=w.drawn/\w'.tape=w.tape:=by
      unfold World.farStore at hf;split at hf
      ·split at hf
       ·rename_i h1;injection hf with hf;subst hf;rename_i at0 u _ _;unfold World.viewStore at h1;by_cases ht:(!tight P P.depth u)=true
        ·rw[if_pos ht] at h1;cases h1
        rw[if_neg ht] at h1;obtain⟨⟨c,e,fr,first,like,cells⟩,-,h2⟩:=bind_ok h1;dsimp only at h2;split at h2
        case h_2=>cases h2
        rename_i bytes _;by_cases hl:some bytes.length≠like.bytes?.map (·.length)
        ·rw[if_pos hl] at h2;cases h2
        rw[if_neg hl] at h2;obtain⟨c',-,h5⟩:=bind_ok h2;injection h5 with h5;injection h5 with h5 h6;subst h5;exact⟨rfl,rfl⟩
       ·cases hf
      ·cases hf
     exact Fam.next (m:=0) (ih hk (hW.BQ hD hf).1 (es++l.toArray.map (⟨.cell ·,true,Mode.plain==.atomic⟩))) ⟨hd.1,hd.2⟩ (by rw[e1,hc];dsimp only;rw[hf]) λτ p _=>by rw[e1,hc'];dsimp only;rw[OF,hf];rfl
 | new o k ih=>exact Fam.next (m:=0) (ih _ (h.2 _ (hW.fresh _ (aj _) (hY _))) (hW.new h.1) es) ⟨rfl,rfl⟩ rfl λτ p _=>rfl
 | shape r k ih=>exact Fam.next (m:=0) (ih _ (h _) hW es) ⟨rfl,rfl⟩ rfl λτ p _=>rfl
 | freeze a n k ih=>
  have hd:(w.freeze a n).drawn=w.drawn/\(w.freeze a n).tape=w.tape:=by unfold World.freeze;split<;>exact⟨rfl,rfl⟩
  refine Fam.next (m:=0) (ih h (hW.freeze a n) es) ⟨hd.1,hd.2⟩ rfl λτ p _=>?_;have:(tp w τ p).freeze a n=tp (w.freeze a n) τ p:=by unfold World.freeze;split<;>rfl
  simp only[Sem.runT,this];rfl
 | frozen a k ih=>exact Fam.next (m:=0) (ih _ (h _) hW es) ⟨rfl,rfl⟩ rfl λτ p _=>rfl
 | getObj r k ih=>
  obtain⟨hD,hk⟩:=h
  cases ho:w.heap[r]? with
  | none=>exact .halt (h:=.stuck "getObj: no such block") (es':=es) (by simp only[Sem.runT,ho]) λτ p=>by simp only[Sem.runT,Hf,ho]
  | some o=>
   have hx:=hW.obj _ _ hD ho;have main:=ih o (hk o hx) hW (es.push ⟨.obj r,false,o.isChan⟩);by_cases hcl:∃c e fr,o=.cells c e fr
   ·obtain⟨c,e,fr,rfl⟩:=hcl;exact .halt (h:=.stuck "getObj: a row of cells") (es':=es) (by simp only[Sem.runT,ho]) λτ p=>by simp only[Sem.runT,Hf,ho]
   ·have e1:∀τ p,(Sem.getObj r k).runT P (tp w τ p) es=(k o).runT P (tp w τ p) (es.push ⟨.obj r,false,o.isChan⟩):=λτ p=>by
     simp only[Sem.runT,Hf,ho];try(cases o<;>first|rfl|exact absurd ⟨_,_,_,rfl⟩ hcl)
    exact Fam.next (m:=0) main ⟨rfl,rfl⟩ (e1 w.tape w.drawn) λτ p _=>e1 τ p
 | setObj r o k ih=>
  obtain⟨hD,ho,hk⟩:=h
  cases hx:w.heap[r]? with
  | none=>exact .halt (h:=.stuck "setObj: no such block") (es':=es) (by simp only[Sem.runT,hx]) λτ p=>by simp only[Sem.runT,Hf,hx]
  | some q=>
   have main:=ih hk (hW.setObj (r:=r) ho) (es.push ⟨.obj r,true,o.isChan⟩);by_cases hcl:∃c e fr,q=.cells c e fr
   ·obtain⟨c,e,fr,rfl⟩:=hcl;exact .halt (h:=.stuck "setObj: a row of cells") (es':=es) (by simp only[Sem.runT,hx]) λτ p=>by simp only[Sem.runT,Hf,hx]
   ·have e1:∀τ p,(Sem.setObj r o k).runT P (tp w τ p) es=k.runT P (tp {w with heap:=w.heap.setIfInBounds r o} τ p) (es.push ⟨.obj r,true,o.isChan⟩):=λτ p=>by
     simp only[Sem.runT,Hf,hx];try(cases q<;>first|rfl|exact absurd ⟨_,_,_,rfl⟩ hcl)
    exact Fam.next (m:=0) main ⟨rfl,rfl⟩ (e1 w.tape w.drawn) λτ p _=>e1 τ p
 | choose q k ih=>
  by_cases hf:q.forced=true
  ·exact Fam.next (m:=0) (ih _ (h 0) hW es) ⟨rfl,rfl⟩ (by simp only[Sem.runT,hf,if_true]) λτ p _=>by simp only[Sem.runT,hf,if_true];rfl
  ·have a1:Asks w {w with drawn:=w.drawn+1} 1:=⟨rfl,rfl⟩;refine Fam.next (ih (q.cut (w.tape w.drawn q)) (h _) (w:={w with drawn:=w.drawn+1}) ⟨hW.fresh,hW.obj⟩ es) a1 (by simp only[Sem.runT];rw[if_neg hf]) λτ p hA=>?_;have h0:τ p q=w.tape w.drawn q:=by simpa using hA 0 (by omega) q
   simp only[Sem.runT];rw[if_neg hf];simp only[JS,c2O,h0]
   rfl
 | sys c k ih=>
  obtain⟨rfl,hk⟩:=h;obtain⟨r,hr⟩:=JP w;have h0:w.sys .env=(r,w):=hr w.tape w.drawn;refine Fam.next (m:=0) (ih r (hk r) hW (es.push ⟨.output,true,false⟩)) ⟨rfl,rfl⟩ (by simp only[Sem.runT,h0]) λτ p _=>?_
  simp only[Sem.runT,hr];rfl
 | program k ih=>exact Fam.next (m:=0) (ih P h hW es) ⟨rfl,rfl⟩ rfl λτ p _=>rfl
 | mark m k ih=>exact Fam.next (m:=0) (ih h.2 hW (es.push ⟨.mark m,false,true⟩)) ⟨rfl,rfl⟩ rfl λτ p _=>rfl
end
structure Le(Z Z':Zone):Prop where
 F:Z'.F=Z.F
 T:Z'.T=Z.T
 N:Z'.N=Z.N
 D:∀b,Z.D b->Z'.D b
theorem Le.trans{A B C:Zone}(h:Le A B)(k:Le B C):Le A C:=⟨k.F.trans h.F,k.T.trans h.T,k.N.trans h.N,λb x=>k.D b (h.D b x)⟩
section
variable{Z Z':Zone}(hL:Le Z Z')
include hL
theorem xJ.mono{f:Fn}(h:xJ Z f):xJ Z' f:=by
 cases h with
 | func f h=>exact .func f (hL.F▸h)
 | method n h=>exact .method n (hL.N▸h)
 | yield l h=>exact .yield l (hL.D _ h)
theorem VP.mono{v:Value}(h:VP Z v):VP Z' v:=by
 induction h with
 | bool b=>exact .bool b
 | int k n=>exact .int k n
 | float k n=>exact .float k n
 | complex k n m=>exact .complex k n m
 | string s=>exact .string s
 | jc=>exact .jc
 | ptr a h=>exact .ptr a (hL.D _ h)
 | gy n c=>exact .gy n c
 | slice a n c h=>exact .slice a n c (hL.D _ h)
 | Bq=>exact .Bq
 | map r h=>exact .map r (hL.D _ h)
 | Gz=>exact .Gz
 | func fn f c h hf hc MS MV=>exact .func fn f c (h.mono hL) MS MV
 | nilFunc=>exact .nilFunc
 | iface t v ht h ih=>exact .iface t v (hL.T▸ht) ih
 | nilIface=>exact .nilIface
 | agg c h ih=>exact .agg c ih
 | tuple c h ih=>exact .tuple c ih
theorem AP.mono{c:Array Value}(h:AP Z c):AP Z' c:=λx hx=>(h x hx).mono hL
theorem GH.mono{x:Operand}(h:GH Z x):GH Z' x:=by
 cases x with
 | tmp t=>trivial
 | const v=>exact VP.mono hL h
 | global g=>exact hL.D _ h
 | func f=>exact(hL.F▸h:Z'.F f)
theorem ES.mono{o:Op}(h:ES Z o):ES Z' o:=by
 refine⟨?_,λx hx=>(h.2 x hx).mono hL⟩;have h1:=h.1;cases o
 case makeInterface t x=>exact(show Z'.T t by rw[hL.T];exact h1)
 case makeFunc fn a b=>exact xJ.mono hL h1
 case call c=>
  refine(show JV Z' c.callee from ?_);have h2:JV Z c.callee:=h1;generalize c.callee=e at h2⊢
  cases e with
  | invoke r n=>exact(show Z'.N n by rw[hL.N];exact h2)
  | builtin b=>exact h2
  | value v=>trivial
 all_goals exact h1
theorem eX.mono{c:Code}(h:eX Z c):eX Z' c:=by
 induction c with
 | seq a b iha ihb=>exact⟨iha h.1,ihb h.2⟩
 | cond _ a b iha ihb=>exact⟨iha h.1,ihb h.2⟩
 | block _ b ih=>exact ih h
 | loop b ih=>exact ih h
 | scope b ih=>exact ih h
 | region _ ops _=>exactλo ho=>(h o ho).mono hL
 | rangeFunc f _ a b iha ihb=>exact⟨h.1.mono hL,iha h.2.1,ihb h.2.2⟩
 | _=>trivial
theorem fK.mono{o:Obj}(h:fK Z o):fK Z' o:=by
 cases h with
 | cells c e fr h=>exact .cells _ _ _ (h.mono hL)
 | map es clock h=>exact .map _ _ λe he=>⟨(h e he).1.mono hL,(h e he).2.mono hL⟩
 | number a l h=>exact .number _ _ (hL.D _ h)
 | stringIter s p=>exact .stringIter _ _
 | pK a b c=>exact .pK _ _ _
 | iter m a b c h=>exact .iter _ _ _ _ (hL.D _ h)
 | loop r h=>exact .loop _ ⟨h.pending,trivial,h.tmps.mono hL,h.assign.mono hL,h.body.mono hL,hL.D _ h.defers⟩
 | deferred=>exact .deferred
 | taken=>exact .taken
 | view a t h=>exact .view _ _ (hL.D _ h)
end
section
variable(Z:Zone)(Sh:Nat->Prop)
def Zf(n:Nat):Zone:={Z with D:=λb=>b<n/\¬Sh b,Y:=λb=>b<n}
def Zi:Zone:={Z with D:=λb=>¬Sh b,Y:=λ_=>True}
structure jh(w:World):Prop where
 obj:∀b o,b<w.heap.size->¬Sh b->w.heap[b]?=some o->fK (Zf Z Sh w.heap.size) o
 sh:∀b,Sh b->b<w.heap.size
 base:∀b,Z.D b->b<w.heap.size/\¬Sh b
end
section
variable{Z:Zone}{Sh:Nat->Prop}{P:Program}
theorem iD{n m:Nat}(h:n<=m):Le (Zf Z Sh n) (Zf Z Sh m):=⟨rfl,rfl,rfl,λ_ x=>⟨ak x.1 h,x.2⟩⟩
theorem sB(n:Nat):Le (Zf Z Sh n) (Zi Z Sh):=⟨rfl,rfl,rfl,λ_ x=>x.2⟩
theorem jh.le{w:World}(h:jh Z Sh w):Le Z (Zf Z Sh w.heap.size):=⟨rfl,rfl,rfl,h.base⟩
theorem jh.zi{w:World}(h:jh Z Sh w):WP (Zi Z Sh) w:=by
 refine⟨λb hb _ hs=>?_,λb o hD ho=>?_⟩
 ·have:=h.sh b hs;omega
 ·refine(h.obj b o ?_ hD ho).mono (sB _);rcases aX b w.heap.size with h|h
  ·exact h
  ·rw[aW h] at ho;cases ho
theorem jh.zf{w:World}(h:jh Z Sh w){n:Nat}(hn:w.heap.size<=n):WP (Zf Z Sh n) w:=by
 refine⟨λb hb hy=>⟨hy,λhs=>?_⟩,λb o hD ho=>?_⟩
 ·have:=h.sh b hs;omega
 ·refine(h.obj b o ?_ hD.2 ho).mono (iD hn);rcases aX b w.heap.size with h|h
  ·exact h
  ·rw[aW h] at ho;cases ho
theorem jh.tp{w:World}(h:jh Z Sh w)(τ:Nat->Question->Nat)(p:Nat):jh Z Sh (tp w τ p):=⟨h.obj,h.sh,h.base⟩
theorem jh.next{w u:World}(h:jh Z Sh w)(hs:w.heap.size<=u.heap.size)(k:WP (Zf Z Sh u.heap.size) u):jh Z Sh u:=
 ⟨λb o hb hS ho=>k.obj b o ⟨hb,hS⟩ ho,λb hb=>ak (h.sh b hb) hs,λb hb=>⟨ak (h.base b hb).1 hs,(h.base b hb).2⟩⟩
theorem both{α:Type}{Q:Zone->α->Prop}{s:Sem α}{w:World}(h:∀Z',Le (Zf Z Sh w.heap.size) Z'->Sf Z' P (Q Z') s)(hW:jh Z Sh w):
 (∃a u es k,Asks w u k/\(∀τ p,Agree w k τ p->s.runT P (tp w τ p) #[]=(.ok a (tp u τ (p+k)),es))/\Q (Zf Z Sh u.heap.size) a/\jh Z Sh u/\w.heap.size<=u.heap.size/\∀e∈es,jd (Zf Z Sh u.heap.size) u.heap.size e) ∨
 (∃x u es k,Asks w u k/\(∀τ p,Agree w k τ p->s.runT P (tp w τ p) #[]=(.halt x (tp u τ (p+k)),es))/\dV x/\w.heap.size<=u.heap.size/\jh Z Sh u):=by
 obtain⟨k,h1,h2⟩:=(h _ (sB _)).fam (λ_=>trivial) hW.zi #[];have hsz:=runT_size P s w #[];have K:=(h _ (iD hsz)).run (hW.zf hsz) #[] (λb hb=>hb);generalize hr:s.runT P w #[]=r at K h1 h2 hsz;obtain⟨r,es⟩:=r
 cases r with
 | ok a u=>
  obtain⟨q,hW',hs,new,he,hev⟩:=K;rw[uz] at he;subst he
  exact .inl ⟨a,u,es,k,h1,h2,q,hW.next hs hW',hs,hev⟩
 | halt x u=>exact .inr ⟨x,u,es,k,h1,h2,K.1,hsz,hW.next hsz K.2⟩
end
end Go.Zn
