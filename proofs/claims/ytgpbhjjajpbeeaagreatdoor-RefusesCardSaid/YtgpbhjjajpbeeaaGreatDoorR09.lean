/- A part of what the last file proves. -/
import Derived.Test.YtgpbhjjajpbeeaaGreatDoorR08
import Derived.Laws.Sem
set_option linter.all false
set_option maxRecDepth 100000
set_option maxHeartbeats 8000000
namespace Go.Zn
def tp(w:World)(τ:Nat->Question->Nat)(p:Nat):World:={w with tape:=τ,drawn:=p}
@[simp] theorem a3y (w:World) (τ:Nat->Question->Nat) (p:Nat):(tp w τ p).heap=w.heap:=rfl
@[simp] theorem c0U (w:World) (τ:Nat->Question->Nat) (p:Nat):(tp w τ p).drawn=p:=rfl
@[simp] theorem c2E (w:World) (τ:Nat->Question->Nat) (p:Nat):(tp w τ p).tape = τ:=rfl
@[simp] theorem tp_tp (w:World) (τ τ':Nat->Question->Nat) (p p':Nat):tp (tp w τ p) τ' p'=tp w τ' p':=rfl
theorem tp_self(w:World):tp w w.tape w.drawn=w:=rfl
def Agree(w:World)(k:Nat)(τ:Nat->Question->Nat)(p:Nat):Prop:=∀j,j<k->∀q,τ (p+j) q=w.tape (w.drawn+j) q
end Go.Zn
namespace Go
def Result.tp{α:Type}(r:Result α)(τ:Nat->Question->Nat)(p:Nat):Result α:=match r with
 | .ok a u=>.ok a (Zn.tp u τ p)
 | .halt h u=>.halt h (Zn.tp u τ p)
end Go
namespace Go.Zn
structure Asks(w u:World)(k:Nat):Prop where
 drawn:u.drawn=w.drawn+k
 tape:u.tape=w.tape
theorem Asks.zero{w u:World}(h:u.drawn=w.drawn)(h':u.tape=w.tape):Asks w u 0:=⟨h,h'⟩
theorem Asks.trans{w v u:World}{k m:Nat}(h:Asks w v k)(h':Asks v u m):Asks w u (k+m):=⟨by rw[h'.drawn,h.drawn];omega,h'.tape.trans h.tape⟩
theorem Agree.left{w:World}{k m:Nat}{τ:Nat->Question->Nat}{p:Nat}(h:Agree w (k+m) τ p):Agree w k τ p:=fun j hj q=>h j (by omega) q
theorem Agree.right{w v:World}{k m:Nat}{τ:Nat->Question->Nat}{p:Nat}(h:Agree w (k+m) τ p)(a:Asks w v k):Agree v m τ (p+k):=fun j hj q=>by
 rw[a.tape,a.drawn,Nat.add_assoc,Nat.add_assoc];exact h (k+j) (by omega) q
theorem c2F(w:World):∃r,∀τ p,(tp w τ p).sys .env=(r,tp w τ p):=by
 refine⟨(w.sys .env).1,fun τ p=>rfl⟩
theorem b1W(P:Program)(w:World)(at0:Addr)(u:TypeId)(a:Addr)(v:Value)(b:Bool)(τ:Nat->Question->Nat)(p:Nat):
 (tp w τ p).viewStore P at0 u a v b=(w.viewStore P at0 u a v b).map fun x=>(tp x.1 τ p,x.2):=by
 unfold World.viewStore;by_cases ht:(!tight P P.depth u)=true
 ·rw[if_pos ht,if_pos ht];rfl
 rw[if_neg ht,if_neg ht];rw[show(tp w τ p).seen P at0 u a b=w.seen P at0 u a b from rfl]
 cases w.seen P at0 u a b with
 | error x=>rfl
 | ok x=>
  obtain⟨c,e,fr,first,like,cells⟩:=x;simp only[bind,Except.bind]
  cases v.bytes? with
  | none=>rfl
  | some bytes=>
   dsimp only;by_cases hl:some bytes.length≠like.bytes?.map (·.length)
   ·rw[if_pos hl,if_pos hl];rfl
   ·rw[if_neg hl,if_neg hl];split
    ·rfl
    ·rfl
theorem a7r(P:Program)(w:World)(a:Addr)(v:Value)(b:Bool)(τ:Nat->Question->Nat)(p:Nat):
 (tp w τ p).farStore P a v b=(w.farStore P a v b).map fun x=>(tp x.1 τ p,x.2):=by
 unfold World.farStore;rw[a3y]
 cases w.heap[a.block]? with
 | none=>rfl
 | some o=>
  cases o with
  | view at0 u=>
   dsimp only;rw[b1W]
   cases w.viewStore P at0 u a v b<;>rfl
  | _=>rfl
section
variable{Z:Zone}{P:Program}
def Fam(P:Program){α:Type}(s:Sem α)(w:World)(es:Array Event):Prop:=
 ∃k,Asks w (s.runT P w es).1.w k/\∀τ p,Agree w k τ p->s.runT P (tp w τ p) es=((s.runT P w es).1.tp τ (p+k),(s.runT P w es).2)
theorem Fam.next{α:Type}{s t:Sem α}{w v:World}{es es':Array Event}{m:Nat}(h:Fam P t v es')(a:Asks w v m)(e:s.runT P w es=t.runT P v es')(e':∀τ p,Agree w m τ p->s.runT P (tp w τ p) es=t.runT P (tp v τ (p+m)) es'):Fam P s w es:=by
 obtain⟨k,h1,h2⟩:=h;refine⟨m+k,?_,fun τ p hA=>?_⟩
 ·rw[e];exact a.trans h1
 ·rw[e' τ p hA.left,e,h2 τ (p+m) (hA.right a),Nat.add_assoc]
theorem Fam.halt{α:Type}{s:Sem α}{w:World}{es es':Array Event}{h:Halt}(e:s.runT P w es=(.halt h w,es'))(e':∀τ p,s.runT P (tp w τ p) es=(.halt h (tp w τ p),es')):Fam P s w es:=
 ⟨0,by rw[e];exact⟨rfl,rfl⟩,fun τ p _=>by rw[e',e];rfl⟩
theorem Sf.fam(hY:∀b,Z.Y b){α:Type}{Q:α->Prop}{s:Sem α}(h:Sf Z P Q s){w:World}(hW:WP Z w)(es:Array Event):Fam P s w es:=by
 induction s generalizing w es with
 | halt x=>exact .halt rfl fun _ _=>rfl
 | pure x=>exact⟨0,⟨rfl,rfl⟩,fun τ p _=>rfl⟩
 | load m a k ih=>
  obtain⟨hD,hk⟩:=h
  cases hc:w.cell? a with
  | some v=>
   exact Fam.next (m:=0) (ih v (hk v (hW.cell hD hc).1) hW (es.push ⟨.cell a,false,m==.atomic⟩)) ⟨rfl,rfl⟩ (by simp only[Sem.runT,hc]) fun τ p _=>by
    have hc':(tp w τ p).cell? a=some v:=hc
    simp only[Sem.runT,hc'];rfl
  | none=>
   have hc':∀τ p,(tp w τ p).cell? a=none:=fun _ _=>hc
   cases hf:w.farLoad P a (m==.atomic) with
   | error x=>
    have hf':∀τ p,(tp w τ p).farLoad P a (m==.atomic)=.error x:=fun _ _=>hf
    exact .halt (h:=x) (es':=es) (by simp only[Sem.runT,hc,hf]) fun τ p=>by simp only[Sem.runT,hc',hf']
   | ok r=>
    obtain⟨v,l⟩:=r;have hf':∀τ p,(tp w τ p).farLoad P a (m==.atomic)=.ok (v,l):=fun _ _=>hf
    exact Fam.next (m:=0) (ih v (hk v (hW.far hD hf).1) hW (es++l.toArray.map (⟨.cell ·,false,m==.atomic⟩))) ⟨rfl,rfl⟩ (by simp only[Sem.runT,hc,hf]) fun τ p _=>by simp only[Sem.runT,hc',hf'];rfl
 | store m a v k ih=>
  obtain⟨rfl,hD,hv,hk⟩:=h
  have e1:(∀w es,(Sem.store Mode.plain a v k).runT P w es=(.halt (.stuck "store: not the value of one cell") w,es))\/(∀w es,(Sem.store Mode.plain a v k).runT P w es=match w.cell? a with
   | some _=>if w.frozen? a then(.halt (.unsupported (.unsafePointer "a write to bytes that a string shares")) w,es) else k.runT P (w.setCell a v) (es.push ⟨.cell a,true,Mode.plain==.atomic⟩)
   | none=>match w.farStore P a v (Mode.plain==.atomic) with
    | .ok (w,touched)=>k.runT P w (es++touched.toArray.map (⟨.cell ·,true,Mode.plain==.atomic⟩))
    | .error h=>(.halt h w,es)):=by
   cases v<;>first|exact .inl fun _ _=>rfl|exact .inr fun _ _=>rfl
  rcases e1 with e1|e1
  ·exact .halt (e1 _ _) fun _ _=>e1 _ _
  ·cases hc:w.cell? a with
   | some y=>
    have hc':∀τ p,(tp w τ p).cell? a=some y:=fun _ _=>hc;by_cases hf:w.frozen? a=true
    ·have hf':∀τ p,(tp w τ p).frozen? a=true:=fun _ _=>hf;exact .halt (h:=.unsupported (.unsafePointer "a write to bytes that a string shares")) (es':=es) (by rw[e1,hc];simp only[hf,if_true]) fun τ p=>by rw[e1,hc'];simp only[hf',if_true]
    ·have hf':∀τ p,¬(tp w τ p).frozen? a=true:=fun _ _=>hf;refine Fam.next (m:=0) (ih hk (hW.setCell (a:=a) hv) (es.push ⟨.cell a,true,Mode.plain==.atomic⟩)) ⟨rfl,rfl⟩ (by rw[e1,hc];dsimp only;rw[if_neg hf]) fun τ p _=>?_
     rw[e1,hc'];dsimp only;rw[if_neg (hf' τ p)];rfl
   | none=>
    have hc':∀τ p,(tp w τ p).cell? a=none:=fun _ _=>hc
    cases hf:w.farStore P a v (Mode.plain==.atomic) with
    | error x=>exact .halt (h:=x) (es':=es) (by rw[e1,hc];dsimp only;rw[hf]) fun τ p=>by rw[e1,hc'];dsimp only;rw[a7r,hf];rfl
    | ok r=>
     obtain⟨w',l⟩:=r;have hd:w'.drawn=w.drawn/\w'.tape=w.tape:=by
      unfold World.farStore at hf;split at hf
      ·split at hf
       ·rename_i h1;injection hf with hf;subst hf;rename_i at0 u _ _;unfold World.viewStore at h1;by_cases ht:(!tight P P.depth u)=true
        ·rw[if_pos ht] at h1;cases h1
        rw[if_neg ht] at h1;obtain⟨⟨c,e,fr,first,like,cells⟩,-,h2⟩:=bind_ok h1;dsimp only at h2;split at h2
        case h_2=>cases h2
        rename_i bytes _;by_cases hl:some bytes.length≠like.bytes?.map (·.length)
        ·rw[if_pos hl] at h2;cases h2
        rw[if_neg hl] at h2;obtain⟨c',-,h5⟩:=bind_ok h2;injection h5 with h5;injection h5 with h5 h6;subst h5;exact⟨rfl,rfl⟩
       ·cases hf
      ·cases hf
     exact Fam.next (m:=0) (ih hk (hW.farS hD hf).1 (es++l.toArray.map (⟨.cell ·,true,Mode.plain==.atomic⟩))) ⟨hd.1,hd.2⟩ (by rw[e1,hc];dsimp only;rw[hf]) fun τ p _=>by rw[e1,hc'];dsimp only;rw[a7r,hf];rfl
 | new o k ih=>exact Fam.next (m:=0) (ih _ (h.2 _ (hW.fresh _ (Nat.le_refl _) (hY _))) (hW.new h.1) es) ⟨rfl,rfl⟩ rfl fun τ p _=>rfl
 | shape r k ih=>exact Fam.next (m:=0) (ih _ (h _) hW es) ⟨rfl,rfl⟩ rfl fun τ p _=>rfl
 | freeze a n k ih=>
  have hd:(w.freeze a n).drawn=w.drawn/\(w.freeze a n).tape=w.tape:=by unfold World.freeze;split<;>exact⟨rfl,rfl⟩
  refine Fam.next (m:=0) (ih h (hW.freeze a n) es) ⟨hd.1,hd.2⟩ rfl fun τ p _=>?_;have:(tp w τ p).freeze a n=tp (w.freeze a n) τ p:=by unfold World.freeze;split<;>rfl
  simp only[Sem.runT,this];rfl
 | frozen a k ih=>exact Fam.next (m:=0) (ih _ (h _) hW es) ⟨rfl,rfl⟩ rfl fun τ p _=>rfl
 | getObj r k ih=>
  obtain⟨hD,hk⟩:=h
  cases ho:w.heap[r]? with
  | none=>exact .halt (h:=.stuck "getObj: no such block") (es':=es) (by simp only[Sem.runT,ho]) fun τ p=>by simp only[Sem.runT,a3y,ho]
  | some o=>
   have hx:=hW.obj _ _ hD ho;have main:=ih o (hk o hx) hW (es.push ⟨.obj r,false,o.isChan⟩);by_cases hcl:∃c e fr,o=.cells c e fr
   ·obtain⟨c,e,fr,rfl⟩:=hcl;exact .halt (h:=.stuck "getObj: a row of cells") (es':=es) (by simp only[Sem.runT,ho]) fun τ p=>by simp only[Sem.runT,a3y,ho]
   ·have e1:∀τ p,(Sem.getObj r k).runT P (tp w τ p) es=(k o).runT P (tp w τ p) (es.push ⟨.obj r,false,o.isChan⟩):=fun τ p=>by
     simp only[Sem.runT,a3y,ho];try(cases o<;>first|rfl|exact absurd ⟨_,_,_,rfl⟩ hcl)
    exact Fam.next (m:=0) main ⟨rfl,rfl⟩ (e1 w.tape w.drawn) fun τ p _=>e1 τ p
 | setObj r o k ih=>
  obtain⟨hD,ho,hk⟩:=h
  cases hx:w.heap[r]? with
  | none=>exact .halt (h:=.stuck "setObj: no such block") (es':=es) (by simp only[Sem.runT,hx]) fun τ p=>by simp only[Sem.runT,a3y,hx]
  | some q=>
   have main:=ih hk (hW.setObj (r:=r) ho) (es.push ⟨.obj r,true,o.isChan⟩);by_cases hcl:∃c e fr,q=.cells c e fr
   ·obtain⟨c,e,fr,rfl⟩:=hcl;exact .halt (h:=.stuck "setObj: a row of cells") (es':=es) (by simp only[Sem.runT,hx]) fun τ p=>by simp only[Sem.runT,a3y,hx]
   ·have e1:∀τ p,(Sem.setObj r o k).runT P (tp w τ p) es=k.runT P (tp {w with heap:=w.heap.setIfInBounds r o} τ p) (es.push ⟨.obj r,true,o.isChan⟩):=fun τ p=>by
     simp only[Sem.runT,a3y,hx];try(cases q<;>first|rfl|exact absurd ⟨_,_,_,rfl⟩ hcl)
    exact Fam.next (m:=0) main ⟨rfl,rfl⟩ (e1 w.tape w.drawn) fun τ p _=>e1 τ p
 | choose q k ih=>
  by_cases hf:q.forced=true
  ·exact Fam.next (m:=0) (ih _ (h 0) hW es) ⟨rfl,rfl⟩ (by simp only[Sem.runT,hf,if_true]) fun τ p _=>by simp only[Sem.runT,hf,if_true];rfl
  ·have a1:Asks w {w with drawn:=w.drawn+1} 1:=⟨rfl,rfl⟩;refine Fam.next (ih (q.cut (w.tape w.drawn q)) (h _) (w:={w with drawn:=w.drawn+1}) ⟨hW.fresh,hW.obj⟩ es) a1 (by simp only[Sem.runT];rw[if_neg hf]) fun τ p hA=>?_;have h0:τ p q=w.tape w.drawn q:=by simpa using hA 0 (by omega) q
   simp only[Sem.runT];rw[if_neg hf];simp only[c2E,c0U,h0]
   rfl
 | sys c k ih=>
  obtain⟨rfl,hk⟩:=h;obtain⟨r,hr⟩:=c2F w;have h0:w.sys .env=(r,w):=hr w.tape w.drawn;refine Fam.next (m:=0) (ih r (hk r) hW (es.push ⟨.output,true,false⟩)) ⟨rfl,rfl⟩ (by simp only[Sem.runT,h0]) fun τ p _=>?_
  simp only[Sem.runT,hr];rfl
 | program k ih=>exact Fam.next (m:=0) (ih P h hW es) ⟨rfl,rfl⟩ rfl fun τ p _=>rfl
 | mark m k ih=>exact Fam.next (m:=0) (ih h.2 hW (es.push ⟨.mark m,false,true⟩)) ⟨rfl,rfl⟩ rfl fun τ p _=>rfl
end
structure Le(Z Z':Zone):Prop where
 F:Z'.F=Z.F
 T:Z'.T=Z.T
 N:Z'.N=Z.N
 D:∀b,Z.D b->Z'.D b
theorem Le.trans{A B C:Zone}(h:Le A B)(k:Le B C):Le A C:=⟨k.F.trans h.F,k.T.trans h.T,k.N.trans h.N,fun b x=>k.D b (h.D b x)⟩
section
variable{Z Z':Zone}(hL:Le Z Z')
include hL
theorem FnP.mono{f:Fn}(h:FnP Z f):FnP Z' f:=by
 cases h with
 | func f h=>exact .func f (hL.F▸h)
 | method n h=>exact .method n (hL.N▸h)
 | yield l h=>exact .yield l (hL.D _ h)
theorem VP.mono{v:Value}(h:VP Z v):VP Z' v:=by
 induction h with
 | bool b=>exact .bool b
 | int k n=>exact .int k n
 | float k n=>exact .float k n
 | complex k n m=>exact .complex k n m
 | string s=>exact .string s
 | pnil=>exact .pnil
 | ptr a h=>exact .ptr a (hL.D _ h)
 | snil n c=>exact .snil n c
 | slice a n c h=>exact .slice a n c (hL.D _ h)
 | mnil=>exact .mnil
 | map r h=>exact .map r (hL.D _ h)
 | cnil=>exact .cnil
 | func fn f c h hf hc ihf ihc=>exact .func fn f c (h.mono hL) ihf ihc
 | nilFunc=>exact .nilFunc
 | iface t v ht h ih=>exact .iface t v (hL.T▸ht) ih
 | nilIface=>exact .nilIface
 | agg c h ih=>exact .agg c ih
 | tuple c h ih=>exact .tuple c ih
theorem AP.mono{c:Array Value}(h:AP Z c):AP Z' c:=fun x hx=>(h x hx).mono hL
theorem b4X.mono{x:Operand}(h:b4X Z x):b4X Z' x:=by
 cases x with
 | tmp t=>trivial
 | const v=>exact VP.mono hL h
 | global g=>exact hL.D _ h
 | func f=>exact(hL.F▸h:Z'.F f)
theorem OpP.mono{o:Op}(h:OpP Z o):OpP Z' o:=by
 refine⟨?_,fun x hx=>(h.2 x hx).mono hL⟩;have h1:=h.1;cases o
 case makeInterface t x=>exact(show Z'.T t by rw[hL.T];exact h1)
 case makeFunc fn a b=>exact FnP.mono hL h1
 case call c=>
  refine(show a4s Z' c.callee from ?_);have h2:a4s Z c.callee:=h1;generalize c.callee=e at h2⊢
  cases e with
  | invoke r n=>exact(show Z'.N n by rw[hL.N];exact h2)
  | builtin b=>exact h2
  | value v=>trivial
 all_goals exact h1
theorem CodeP.mono{c:Code}(h:CodeP Z c):CodeP Z' c:=by
 induction c with
 | seq a b iha ihb=>exact⟨iha h.1,ihb h.2⟩
 | cond _ a b iha ihb=>exact⟨iha h.1,ihb h.2⟩
 | block _ b ih=>exact ih h
 | loop b ih=>exact ih h
 | scope b ih=>exact ih h
 | region _ ops _=>exact fun o ho=>(h o ho).mono hL
 | rangeFunc f _ a b iha ihb=>exact⟨h.1.mono hL,iha h.2.1,ihb h.2.2⟩
 | _=>trivial
theorem ObjP.mono{o:Obj}(h:ObjP Z o):ObjP Z' o:=by
 cases h with
 | cells c e fr h=>exact .cells _ _ _ (h.mono hL)
 | map es clock h=>exact .map _ _ fun e he=>⟨(h e he).1.mono hL,(h e he).2.mono hL⟩
 | number a l h=>exact .number _ _ (hL.D _ h)
 | stringIter s p=>exact .stringIter _ _
 | iterNil a b c=>exact .iterNil _ _ _
 | iter m a b c h=>exact .iter _ _ _ _ (hL.D _ h)
 | loop r h=>exact .loop _ ⟨h.pending,trivial,h.tmps.mono hL,h.assign.mono hL,h.body.mono hL,hL.D _ h.defers⟩
 | deferred=>exact .deferred
 | taken=>exact .taken
 | view a t h=>exact .view _ _ (hL.D _ h)
end
section
variable(Z:Zone)(Sh:Nat->Prop)
def Zf(n:Nat):Zone:={Z with D:=fun b=>b<n/\¬Sh b,Y:=fun b=>b<n}
def Zi:Zone:={Z with D:=fun b=>¬Sh b,Y:=fun _=>True}
structure WPs(w:World):Prop where
 obj:∀b o,b<w.heap.size->¬Sh b->w.heap[b]?=some o->ObjP (Zf Z Sh w.heap.size) o
 sh:∀b,Sh b->b<w.heap.size
 base:∀b,Z.D b->b<w.heap.size/\¬Sh b
end
section
variable{Z:Zone}{Sh:Nat->Prop}{P:Program}
theorem le_zf{n m:Nat}(h:n<=m):Le (Zf Z Sh n) (Zf Z Sh m):=⟨rfl,rfl,rfl,fun _ x=>⟨Nat.lt_of_lt_of_le x.1 h,x.2⟩⟩
theorem c2S(n:Nat):Le (Zf Z Sh n) (Zi Z Sh):=⟨rfl,rfl,rfl,fun _ x=>x.2⟩
theorem WPs.le{w:World}(h:WPs Z Sh w):Le Z (Zf Z Sh w.heap.size):=⟨rfl,rfl,rfl,h.base⟩
theorem WPs.zi{w:World}(h:WPs Z Sh w):WP (Zi Z Sh) w:=by
 refine⟨fun b hb _ hs=>?_,fun b o hD ho=>?_⟩
 ·have:=h.sh b hs;omega
 ·refine(h.obj b o ?_ hD ho).mono (c2S _);rcases Nat.lt_or_ge b w.heap.size with h|h
  ·exact h
  ·rw[Array.getElem?_eq_none h] at ho;cases ho
theorem WPs.zf{w:World}(h:WPs Z Sh w){n:Nat}(hn:w.heap.size<=n):WP (Zf Z Sh n) w:=by
 refine⟨fun b hb hy=>⟨hy,fun hs=>?_⟩,fun b o hD ho=>?_⟩
 ·have:=h.sh b hs;omega
 ·refine(h.obj b o ?_ hD.2 ho).mono (le_zf hn);rcases Nat.lt_or_ge b w.heap.size with h|h
  ·exact h
  ·rw[Array.getElem?_eq_none h] at ho;cases ho
theorem WPs.tp{w:World}(h:WPs Z Sh w)(τ:Nat->Question->Nat)(p:Nat):WPs Z Sh (tp w τ p):=⟨h.obj,h.sh,h.base⟩
theorem WPs.next{w u:World}(h:WPs Z Sh w)(hs:w.heap.size<=u.heap.size)(k:WP (Zf Z Sh u.heap.size) u):WPs Z Sh u:=
 ⟨fun b o hb hS ho=>k.obj b o ⟨hb,hS⟩ ho,fun b hb=>Nat.lt_of_lt_of_le (h.sh b hb) hs,fun b hb=>⟨Nat.lt_of_lt_of_le (h.base b hb).1 hs,(h.base b hb).2⟩⟩
theorem both{α:Type}{Q:Zone->α->Prop}{s:Sem α}{w:World}(h:∀Z',Le (Zf Z Sh w.heap.size) Z'->Sf Z' P (Q Z') s)(hW:WPs Z Sh w):
 (∃a u es k,Asks w u k/\(∀τ p,Agree w k τ p->s.runT P (tp w τ p) #[]=(.ok a (tp u τ (p+k)),es))/\Q (Zf Z Sh u.heap.size) a/\WPs Z Sh u/\w.heap.size<=u.heap.size/\∀e∈es,EvOK (Zf Z Sh u.heap.size) u.heap.size e) ∨
 (∃x u es k,Asks w u k/\(∀τ p,Agree w k τ p->s.runT P (tp w τ p) #[]=(.halt x (tp u τ (p+k)),es))/\HaltOK x/\w.heap.size<=u.heap.size/\WPs Z Sh u):=by
 obtain⟨k,h1,h2⟩:=(h _ (c2S _)).fam (fun _=>trivial) hW.zi #[];have hsz:=runT_size P s w #[];have K:=(h _ (le_zf hsz)).run (hW.zf hsz) #[] (fun b hb=>hb);generalize hr:s.runT P w #[]=r at K h1 h2 hsz;obtain⟨r,es⟩:=r
 cases r with
 | ok a u=>
  obtain⟨q,hW',hs,new,he,hev⟩:=K;rw[Array.empty_append] at he;subst he
  exact .inl ⟨a,u,es,k,h1,h2,q,hW.next hs hW',hs,hev⟩
 | halt x u=>exact .inr ⟨x,u,es,k,h1,h2,K.1,hsz,hW.next hsz K.2⟩
end
end Go.Zn
namespace Go.Mw
section
open Go.Conc Go.RowKit Go.Conc.Lib Go.ConcR.Gen Go.ConcN.Gen
open Go.ConcR (KK wgBlock WgAt stA smA rd wr mk DC0)
open Go.ConcN (WgLive)
open Zn (tp)
open Mc
variable[Go.ConcR.Payload]
def c0x(w w₁:World):Prop:=∃τ p,w₁=tp w τ p
variable{Z:Pz}{L:WgLink}{x:Option Nat}{b₀:Frame}{a₀:Act}{ops₀:Array Oper}{i₀:Nat}{rest₀:List Nat}{k₀:List Item}{cs:List Frame}
def b3f(P:Program)(g' g:Goroutine)(w:World):Prop:=Goes P true c0x DC0 (fun g₁ _=>g₁=g') 40 g w
def b3g(Z:Pz)(L:WgLink)(w0:World)(c:Frame)(cs:List Frame)(g:Goroutine)(w:World):Prop:=
 ∃T:Array Value,g=G ((base L.wait).at ⟨T,[]⟩ [.code (L7 L),.inLoop (L7 L),.inBlock 0]) (c::cs)/\T.size=84/\T[0]?=some (.pointer (some ⟨Z.Wg,0,none⟩))/\Kn Z none w0 w
theorem Kn.rely0{w0 w w₁:World}(h:Kn Z none w0 w)(r:R0 Z x w w₁):Kn Z none w0 w₁:=h.rely ⟨r.size,r.eld,fun b hb=>(by cases hb),r.live,r.shb⟩
theorem a2v{w w₁:World}(_:True)(_:c0x w w₁):True:=trivial
theorem b4Q(hZ:a0a Z)(H:WgLib Z.P L)(hty:Z.ty=L.tWg){w0:World}(g:Goroutine)(w:World)(h:b3g Z L w0 (b₀.at a₀ (.inRegion ops₀ (i₀::rest₀)::k₀)) cs g w):
 ∃T,W0 Z (AtW1 Z (b3f Z.P (G (b₀.at (a₀.put ((ops₀[i₀]?).bind (·.dst)) (.tuple #[])) (.inRegion ops₀ rest₀::k₀)) cs)) (b3g Z L w0 (b₀.at a₀ (.inRegion ops₀ (i₀::rest₀)::k₀)) cs)) T x g w:=by
 lib_facts;obtain⟨T,rfl,hT84,t0,hF0⟩:=h;obtain⟨v0,v1,v2,v3,v4,v5,v6,v7,v8,v9,v10,v11,v12,v13,v14,v15,v16,v17,v18,v19,v20,v21,v22,v23,v24,v25,v26,v27,v28,v29,v30,v31,v32,v33,v34,v35,v36,v37,v38,v39,v40,v41,v42,v43,v44,v45,v46,v47,v48,v49,v50,v51,v52,v53,v54,v55,v56,v57,v58,v59,v60,v61,v62,v63,v64,v65,v66,v67,v68,v69,v70,v71,v72,v73,v74,v75,v76,v77,v78,v79,v80,v81,v82,v83,rfl⟩:=array84 T hT84;clear hT84;simp only[List.getElem?_toArray,List.getElem?_cons_zero,Option.some.injEq] at t0;subst t0;have hF:Kn Z none w w:=⟨R0.refl Z none w,hF0.2⟩;have back:∀w',Kn Z none w w'->Kn Z none w0 w':=fun w' h=>hF0.rely h.1;clear hF0;refine Y6 (n:=30) ?_;simp only[L7,body_wait,waitFn,Option.getD_some];iterate 6 (first|w_go Kn.rely0|u_cnd true Kn.rely0 hF|u_cnd false Kn.rely0 hF)
 u_call H.f_uLoad (nm_uLoad L) uLoadFn Kn.rely0 hF
 iterate 9 (first|w_go Kn.rely0|u_cnd true Kn.rely0 hF|u_cnd false Kn.rely0 hF)
 refine Goes.stop (fun w₁ h₁=>?_);replace hF:=Kn.rely0 hF h₁;clear h₁;refine⟨rfl,fun v hv hw=>?_⟩;rcases Nat.eq_zero_or_pos v with rfl|hvp
 ·replace hw:WgAt Z.ty Z.Wg w₁ 0 0:=by simpa using hw
  refine⟨_,stepG_load_atomic (v:=0) rfl rfl (by k_ne) rfl H.f_loadU64 (x_loadU64_n L) (x_loadU64_b L) (x_loadU64_x L) .u64 (x_loadU64_f L) rfl hw.cellSt,fun _=>Y6 (n:=50) ?_,fun h=>absurd rfl h⟩;clear hw;walk_nrm;iterate 3 (first|w_go Kn.rely0|u_cnd true Kn.rely0 hF|u_cnd false Kn.rely0 hF)
  u_leave1 H.f_uLoad Kn.rely0 hF
  iterate 27 (first|w_go Kn.rely0|u_cnd true Kn.rely0 hF|u_cnd false Kn.rely0 hF)
  refine Goes.stop (fun w₅ h₅=>?_);replace hF:=Kn.rely0 hF h₅;clear h₅;refine⟨rfl,_,stepG_mark0 .enable (by simp) rfl rfl (by k_ne) rfl H.f_enable (x_enable_n L) (x_enable_b L) (x_enable_x L) (x_enable_f L),Y6 (n:=12) ?_⟩;walk_nrm;iterate 3 (first|w_go Kn.rely0|u_cnd true Kn.rely0 hF|u_cnd false Kn.rely0 hF)
  u_in Kn.rely0 hF
  refine goes_oper_k rfl rfl (by k_ne) (fun Kx hKx=>?_);have hc1:=(WgLive.cell0 hF.2).choose_spec;have hcv:=run_convert_to_unsafe (P:=Z.P) H.underlying_tWgP H.underlying_tUP H.room_tWg hc1;have hce:=fun es=>events_convert_to_unsafe (P:=Z.P) H.underlying_tWgP H.underlying_tUP H.room_tWg hc1 es;go_simp
  refine hKx _ _ ⟨?_,?_⟩
  ·u_none
   intro ex hex;have hmx:=mem_listed hex;simp[go_sem,hce] at hmx
  clear hKx Kx hcv hce hc1;refine Goes.stop (fun w₆ h₆=>?_);replace hF:=Kn.rely0 hF h₆;clear h₆;refine⟨rfl,_,stepG_markAt .acquire (by simp) rfl rfl (by k_ne) rfl H.f_acquire (x_acquire_n L) (x_acquire_b L) (x_acquire_x L) (x_acquire_f L) (by simp[Act.eval,stA]),rfl,?_⟩;unfold b3f;clear hF;have hF:True:=trivial;walk_nrm;iterate 19 (first|w_go a2v|u_cnd true a2v hF|u_cnd false a2v hF)
  u_leave0 H.f_wait a2v hF
  exact Goes.stop fun _ _=>rfl
 ·obtain⟨S,hS⟩:∃S:Int,(v:Int)*KK=S:=⟨_,rfl⟩;have a1:S/4294967296=(v:Int):=by rw[<-hS];simp only[KK];omega
  have b1:bits .and .u64 S 2147483648=0:=by rw[<-hS];have:=Go.ConcN.st_flag v 0 (by omega) (by omega);simpa [KK] using this
  have b2:bits .and .u64 S 2147483647=0:=by rw[<-hS];have:=Go.ConcN.st_waiters v 0 (by omega) (by omega);simpa [KK] using this
  have c1:IntKind.i32.wrap (v:Int)=(v:Int):=by rw[IntKind.wrap_i32];omega
  have w1:IntKind.u64.wrap (S+1)=S+1:=by rw[IntKind.wrap_u64,<-hS];simp only[KK];omega
  have q3:decide ((v:Int)<0)=false:=decide_eq_false (by omega);have q4:decide (0<(v:Int))=true:=decide_eq_true (by omega);have q5:((v:Int)==0)=false:=by simp;omega
  have q6:decide ((v:Int)=0)=false:=decide_eq_false (by omega);rw[hS] at hw;refine⟨_,stepG_load_atomic (v:=S) rfl rfl (by k_ne) rfl H.f_loadU64 (x_loadU64_n L) (x_loadU64_b L) (x_loadU64_x L) .u64 (x_loadU64_f L) rfl hw.cellSt,fun h0=>absurd h0 (by omega),fun _=>Y6 (n:=60) ?_⟩;clear hw;walk_nrm;iterate 3 (first|w_go Kn.rely0|u_cnd true Kn.rely0 hF|u_cnd false Kn.rely0 hF)
  u_leave1 H.f_uLoad Kn.rely0 hF
  iterate 32 (first|w_go Kn.rely0|u_cnd true Kn.rely0 hF|u_cnd false Kn.rely0 hF)
  u_call H.f_uCas (nm_uCas L) uCasFn Kn.rely0 hF
  iterate 11 (first|w_go Kn.rely0|u_cnd true Kn.rely0 hF|u_cnd false Kn.rely0 hF)
  refine Goes.stop (fun w₂ h₂=>?_);replace hF:=Kn.rely0 hF h₂;clear h₂;refine⟨rfl,fun v' hv' hw=>⟨fun e=>?_,fun e=>?_⟩⟩
  ·subst e;rw[hS] at hw⊢;refine⟨_,(stepG_cas_hit (v:=S) (n:=S+1) rfl rfl (by k_ne) rfl H.f_casU64 (x_casU64_n L) (x_casU64_b L) (x_casU64_x L) .u64 (x_casU64_f L) rfl rfl rfl hw.cellSt (hw.thaw 0)).trans (by rfl),b5T (n:=70) ?_⟩;replace hF:=Kn.set hZ (by simp) hF (stA Z.Wg) rfl (.int .u64 (S+1)) ⟨_,_,hw.setSt _⟩;clear hw;walk_nrm;iterate 3 (first|w_go Kn.rely0|u_cnd true Kn.rely0 hF|u_cnd false Kn.rely0 hF)
   u_leave1 H.f_uCas Kn.rely0 hF
   iterate 15 (first|w_go Kn.rely0|u_cnd true Kn.rely0 hF|u_cnd false Kn.rely0 hF)
   u_in Kn.rely0 hF
   refine goes_oper_k rfl rfl (by k_ne) (fun Kx hKx=>?_);have hc1:=(WgLive.cell1 hF.2).choose_spec;have hcv:=run_convert_to_unsafe (P:=Z.P) H.underlying_tPU32 H.underlying_tUP H.room_tU32 hc1;have hce:=fun es=>events_convert_to_unsafe (P:=Z.P) H.underlying_tPU32 H.underlying_tUP H.room_tU32 hc1 es;go_simp
   refine hKx _ _ ⟨?_,?_⟩
   ·u_none
    intro ex hex;have hmx:=mem_listed hex;simp[go_sem,hce] at hmx
   clear hKx Kx hcv hce hc1;refine Goes.stop (fun w₉ h₉=>?_);replace hF:=Kn.rely0 hF h₉;clear h₉;refine b5U rfl ⟨_,.inr rfl,rfl⟩ (fun w=>stepG_markAt (ad:=⟨Z.Wg,1,none⟩) .write (by simp) rfl rfl (by k_ne) rfl H.f_raceWrite (x_raceWrite_n L) (x_raceWrite_b L) (x_raceWrite_x L) (x_raceWrite_f L) (by simp[Act.eval]<;>rfl)) (fun w₈ h₈=>Y6 (n:=60) ?_);replace hF:=Kn.rely0 hF h₈;clear h₈;walk_nrm;iterate 23 (first|w_go Kn.rely0|u_cnd true Kn.rely0 hF|u_cnd false Kn.rely0 hF)
   refine Goes.stop (fun w₃ h₃=>?_);replace hF:=Kn.rely0 hF h₃;clear h₃;refine⟨rfl,rfl,fun⟨st,hw⟩=>stepG_semacquire_wait rfl rfl rfl H.f_semacquire (x_semacquire_n L) (x_semacquire_b L) (x_semacquire_x L) (x_semacquire_f L) (by simp[Act.eval,smA]) hw.cellSm,fun hf=>?_⟩;refine⟨_,(stepG_semacquire (n:=1) rfl rfl (by k_ne) rfl H.f_semacquire (x_semacquire_n L) (x_semacquire_b L) (x_semacquire_x L) (x_semacquire_f L) (by simp[Act.eval,smA]) hf.cellSm (by k_ne) (hf.thaw 1)).trans (by rfl),Y6 (n:=30) ?_⟩;replace hF:=Kn.set hZ (by simp) hF (smA Z.Wg) rfl (.int .u32 0) ⟨_,_,hf.setSm 0⟩;clear hf;walk_nrm;iterate 6 (first|w_go Kn.rely0|u_cnd true Kn.rely0 hF|u_cnd false Kn.rely0 hF)
   u_call H.f_uLoad (nm_uLoad L) uLoadFn Kn.rely0 hF
   iterate 9 (first|w_go Kn.rely0|u_cnd true Kn.rely0 hF|u_cnd false Kn.rely0 hF)
   refine Goes.stop (fun w₄ h₄=>?_);replace hF:=Kn.rely0 hF h₄;clear h₄;refine⟨rfl,fun hw=>⟨_,stepG_load_atomic (v:=0) rfl rfl (by k_ne) rfl H.f_loadU64 (x_loadU64_n L) (x_loadU64_b L) (x_loadU64_x L) .u64 (x_loadU64_f L) rfl hw.cellSt,Y6 (n:=30) ?_⟩⟩;walk_nrm;iterate 3 (first|w_go Kn.rely0|u_cnd true Kn.rely0 hF|u_cnd false Kn.rely0 hF)
   u_leave1 H.f_uLoad Kn.rely0 hF
   iterate 7 (first|w_go Kn.rely0|u_cnd true Kn.rely0 hF|u_cnd false Kn.rely0 hF)
   refine Goes.stop (fun w₅ h₅=>?_);replace hF:=Kn.rely0 hF h₅;clear h₅;refine⟨rfl,_,stepG_mark0 .enable (by simp) rfl rfl (by k_ne) rfl H.f_enable (x_enable_n L) (x_enable_b L) (x_enable_x L) (x_enable_f L),Y6 (n:=12) ?_⟩;walk_nrm;iterate 3 (first|w_go Kn.rely0|u_cnd true Kn.rely0 hF|u_cnd false Kn.rely0 hF)
   u_in Kn.rely0 hF
   refine goes_oper_k rfl rfl (by k_ne) (fun Kx hKx=>?_);have hc1:=(WgLive.cell0 hF.2).choose_spec;have hcv:=run_convert_to_unsafe (P:=Z.P) H.underlying_tWgP H.underlying_tUP H.room_tWg hc1;have hce:=fun es=>events_convert_to_unsafe (P:=Z.P) H.underlying_tWgP H.underlying_tUP H.room_tWg hc1 es;go_simp
   refine hKx _ _ ⟨?_,?_⟩
   ·u_none
    intro ex hex;have hmx:=mem_listed hex;simp[go_sem,hce] at hmx
   clear hKx Kx hcv hce hc1;refine Goes.stop (fun w₆ h₆=>?_);replace hF:=Kn.rely0 hF h₆;clear h₆;refine⟨rfl,_,stepG_markAt .acquire (by simp) rfl rfl (by k_ne) rfl H.f_acquire (x_acquire_n L) (x_acquire_b L) (x_acquire_x L) (x_acquire_f L) (by simp[Act.eval,stA]),rfl,?_⟩;unfold b3f;clear hF;have hF:True:=trivial;walk_nrm;iterate 9 (first|w_go a2v|u_cnd true a2v hF|u_cnd false a2v hF)
   u_leave0 H.f_wait a2v hF
   exact Goes.stop fun _ _=>rfl
  ·refine⟨_,stepG_cas_miss (v:=(v':Int)*KK) (old:=S) (n:=S+1) rfl rfl (by k_ne) rfl H.f_casU64 (x_casU64_n L) (x_casU64_b L) (x_casU64_x L) .u64 (x_casU64_f L) rfl rfl rfl hw.cellSt (hw.thaw 0) (by rw[<-hS];simp only[KK];omega),Y6 (n:=20) ?_⟩;clear hw;walk_nrm;iterate 3 (first|w_go Kn.rely0|u_cnd true Kn.rely0 hF|u_cnd false Kn.rely0 hF)
   u_leave1 H.f_uCas Kn.rely0 hF
   iterate 5 (first|w_go Kn.rely0|u_cnd true Kn.rely0 hF|u_cnd false Kn.rely0 hF)
   refine Goes.stop (fun w₃ h₃=>?_);exact⟨_,rfl,by simp,by simp,back _ (Kn.rely0 hF h₃)⟩
theorem b4R(H:WgLib Z.P L)(hty:Z.ty=L.tWg){w0 w:World}(hF:Kn Z none w0 w):
 ∃T,W0 Z (AtKd Z (b3g Z L w0 (b₀.at a₀ (.inRegion ops₀ (i₀::rest₀)::k₀)) cs)) T none (G ((base L.wait).at ⟨#[.pointer (some ⟨Z.Wg,0,none⟩)]++Array.replicate 83 undef,[]⟩ [.code (body_wait L)]) (b₀.at a₀ (.inRegion ops₀ (i₀::rest₀)::k₀)::cs)) w:=by
 lib_facts;refine Y6 (n:=3) ?_;simp only[body_wait,waitFn,Option.getD_some];walk_nrm;iterate 3 (first|w_go Kn.rely|u_cnd true Kn.rely hF|u_cnd false Kn.rely hF)
 refine Goes.stop (fun w₁ h₁=>?_);replace hF:=Kn.rely hF h₁;clear h₁;refine⟨rfl,_,stepG_mark0 .disable (by simp) rfl rfl (by k_ne) rfl H.f_disable (x_disable_n L) (x_disable_b L) (x_disable_x L) (x_disable_f L),Y6 (Stop:=fun _=>b3g Z L w0 _ cs) (n:=3) ?_⟩;walk_nrm;iterate 3 (first|w_go Kn.rely|u_cnd true Kn.rely hF|u_cnd false Kn.rely hF)
 exact Goes.stop (fun w₂ h₂=>⟨_,rfl,by simp,by simp,Kn.rely hF h₂⟩)
end
end Go.Mw
namespace Go.Proofs.YtgpbhjjajpbeeaaGreatDoor
section
open Go.RowKit
abbrev link:Go.Conc.Lib.WgLink:={add:=58,done:=60,wait:=63,relMerge:=99,disable:=100,enable:=101,inBubble:=102,associate:=103,fatal:=104,uOr:=105,uAdd:=106,raceRead:=107,uLoad:=108,uStore:=109,disassociate:=110,semrelease:=111,acquire:=113,isAssociated:=114,uCas:=115,raceWrite:=116,semacquire:=117,orU64:=157,addU64:=158,loadU64:=159,storeU64:=160,casU64:=161,tWgP:=207,tUP:=209,tAssoc:=210,tWg:=149,tAU:=146,tU64:=24,tUint:=56,tU32:=147,tPU32:=214,tPAU:=284,tPU64:=286,tNoCopy:=144,tANoCopy:=140,tAlign64:=141}
theorem wgLib:Go.Conc.Lib.WgLib Tryz.prog link:=
 ⟨Tryz.func58,Tryz.func60,Tryz.func63,Tryz.func99,Tryz.func100,Tryz.func101,Tryz.func102,Tryz.func103,Tryz.func104,Tryz.func105,Tryz.func106,Tryz.func107,Tryz.func108,Tryz.func109,Tryz.func110,Tryz.func111,Tryz.func113,Tryz.func114,Tryz.func115,Tryz.func116,Tryz.func117,Tryz.func157,Tryz.func158,Tryz.func159,Tryz.func160,Tryz.func161,Tryz.underlying207,Tryz.runUnderlying207,Tryz.sizeOf207,Tryz.isAgg207,Tryz.zeroValue207,Tryz.underlying209,Tryz.runUnderlying209,Tryz.sizeOf209,Tryz.isAgg209,Tryz.zeroValue209,Tryz.underlying210,Tryz.runUnderlying210,Tryz.sizeOf210,Tryz.isAgg210,Tryz.zeroValue210,Tryz.underlying149,Tryz.runUnderlying149,Tryz.sizeOf149,Tryz.isAgg149,Tryz.zeroValue149,Tryz.underlying146,Tryz.runUnderlying146,Tryz.sizeOf146,Tryz.isAgg146,Tryz.zeroValue146,Tryz.underlying24,Tryz.runUnderlying24,Tryz.sizeOf24,Tryz.isAgg24,Tryz.zeroValue24,Tryz.underlying56,Tryz.runUnderlying56,Tryz.sizeOf56,Tryz.isAgg56,Tryz.zeroValue56,Tryz.underlying147,Tryz.runUnderlying147,Tryz.sizeOf147,Tryz.isAgg147,Tryz.zeroValue147,Tryz.underlying214,Tryz.runUnderlying214,Tryz.sizeOf214,Tryz.isAgg214,Tryz.zeroValue214,Tryz.underlying284,Tryz.runUnderlying284,Tryz.sizeOf284,Tryz.isAgg284,Tryz.zeroValue284,Tryz.underlying286,Tryz.runUnderlying286,Tryz.sizeOf286,Tryz.isAgg286,Tryz.zeroValue286,Tryz.underlying0,Tryz.runUnderlying0,Tryz.sizeOf0,Tryz.isAgg0,Tryz.zeroValue0,Tryz.underlying3,Tryz.runUnderlying3,Tryz.sizeOf3,Tryz.isAgg3,Tryz.zeroValue3,Tryz.underlying4,Tryz.runUnderlying4,Tryz.sizeOf4,Tryz.isAgg4,Tryz.zeroValue4,Tryz.underlying9,Tryz.runUnderlying9,Tryz.sizeOf9,Tryz.isAgg9,Tryz.zeroValue9,Tryz.underlying20,Tryz.runUnderlying20,Tryz.sizeOf20,Tryz.isAgg20,Tryz.zeroValue20,Tryz.underlying21,Tryz.runUnderlying21,Tryz.sizeOf21,Tryz.isAgg21,Tryz.zeroValue21,(by kernel_rfl),(by kernel_rfl)⟩
end
end Go.Proofs.YtgpbhjjajpbeeaaGreatDoor
namespace Go.Mw
section
open Go.Conc
open Mc
set_option linter.unusedSectionVars false
variable[Go.ConcR.Payload]{Z:Pz}{x:Option Nat}{Stop:Option Nat->Goroutine->World->Prop}{b:Frame}{a:Act}{k:List Item}{cs:List Frame}{w:World}{g g':Goroutine}
theorem b5V{w₁:World}(h:∃T,W0 Z Stop T x g w)(r:R0 Z x w w₁):∃T,W0 Z Stop T x g w₁:=let ⟨T,h⟩:=h;⟨T,Wk.rely (R:=R0 Z) (fun _ _ _ _ h1 h2=>R0.trans Z h1 h2) h r⟩
theorem c2h(w:World):D0 Z x x w w #[]:=b5S (by simp)
theorem J9(hrun:g.status=.running)(h:∀w,stepG Z.P true g w=.go g' w)(h':∃T,W0 Z Stop T x g' w):∃T,W0 Z Stop T x g w:=
 Wk.step hrun fun w₁ r=>let ⟨T,hT⟩:=b5V h' r;⟨g',w₁,#[],x,T,h w₁,c2h w₁,hT⟩
theorem b5W(hrun:g.status=.running)(h:∀w₁,R0 Z x w w₁->∃g' w' es x',stepG Z.P true g w₁=.go g' w' es/\D0 Z x x' w₁ w' es/\∃T,W0 Z Stop T x' g' w'):∃T,W0 Z Stop T x g w:=
 Wk.step hrun fun w₁ r=>let ⟨g',w',es,x',h1,h2,T,h3⟩:=h w₁ r;⟨g',w',es,x',T,h1,h2,h3⟩
theorem b5X{ops:Array Oper}{i:Nat}{rest:List Nat}{o:Oper}{f:FuncId}{fn:Func}{c:Code}{args:Array Operand}{ats:Array TypeId}(ho:ops[i]?=some o)(hw:Region.wanted o (yielded ops a.tmps)=true)(hk:b.kind≠.early)
 (hop:o.op=.call {callee:=.value (.func f),args,argTypes:=ats})(hf:Z.P.funcs[f]?=some fn)(hname:(fn.name== "runtime.NumGoroutine")=false)(hb:fn.body=some c)
 (h:∃T,W0 Z Stop T x (G ((base f).at {tmps:=args.map a.eval++Array.replicate (fn.ntmps - (args.map a.eval).size) undef,defers:=[]} [.code c]) (b.at a (.inRegion ops (i::rest)::k)::cs)) w):
 ∃T,W0 Z Stop T x (G (b.at a (.inRegion ops (i::rest)::k)) cs) w:=by
 refine J9 rfl (fun w₁=>?_) h;obtain⟨g',w',es,e,e1⟩:=goes_elim (goes_call (K:=fun g' w' es=>g'=_/\w'=w₁/\es=#[]) ho hw hk hop hf hname hb ⟨rfl,rfl,rfl⟩:(stepG Z.P true (G (b.at a (.inRegion ops (i::rest)::k)) cs) w₁).goes _);obtain⟨rfl,rfl,rfl⟩:=e1;exact e
theorem a2i{ops:Array Oper}{i:Nat}{rest:List Nat}{o:Oper}{v:Value}(ho:ops[i]?=some o)(hw:Region.wanted o (yielded ops a.tmps)=true)(hk:b.kind≠.early)(hr:∀w,(execOp a.eval o).run Z.P w=.ok (.value v) w)
 (he:∀w,(execOp a.eval o).events Z.P w #[]=#[])(h:∃T,W0 Z Stop T x (G (b.at (a.put o.dst v) (.inRegion ops rest::k)) cs) w):∃T,W0 Z Stop T x (G (b.at a (.inRegion ops (i::rest)::k)) cs) w:=by
 refine J9 rfl (fun w₁=>?_) h;rw[stepG_value ho hw hk (hr w₁)];have e:listed Z.P b.fn a o w₁=#[]:=by unfold listed;rw[he w₁];exact seen_none _ _
 rw[e]
theorem c0y{ops:Array Oper}{i:Nat}{rest:List Nat}{o:Oper}(ho:ops[i]?=some o)(hw:Region.wanted o (yielded ops a.tmps)=true)(hk:b.kind≠.early)
 (h:∀w₁,R0 Z x w w₁->∃v w' x',(execOp a.eval o).run Z.P w₁=.ok (.value v) w'/\D0 Z x x' w₁ w' (listed Z.P b.fn a o w₁)/\∃T,W0 Z Stop T x' (G (b.at (a.put o.dst v) (.inRegion ops rest::k)) cs) w'):
 ∃T,W0 Z Stop T x (G (b.at a (.inRegion ops (i::rest)::k)) cs) w:=by
 refine b5W rfl fun w₁ r=>?_;obtain⟨v,w',x',h1,h2,h3⟩:=h w₁ r;exact⟨_,w',_,x',stepG_value ho hw hk h1,h2,h3⟩
theorem c2i{ops:Array Oper}{i:Nat}{rest:List Nat}{o:Oper}(ho:ops[i]?=some o)(hw:Region.wanted o (yielded ops a.tmps)=true)(hk:b.kind≠.early)
 (h:∀w₁,R0 Z x w w₁->∃w' x',(execOp a.eval o).run Z.P w₁=.ok .skip w'/\D0 Z x x' w₁ w' (listed Z.P b.fn a o w₁)/\∃T,W0 Z Stop T x' (G (b.at (a.put o.dst undef) (.inRegion ops rest::k)) cs) w'):
 ∃T,W0 Z Stop T x (G (b.at a (.inRegion ops (i::rest)::k)) cs) w:=by
 refine b5W rfl fun w₁ r=>?_;obtain⟨w',x',h1,h2,h3⟩:=h w₁ r;exact⟨_,w',_,x',stepG_none ho hw hk h1,h2,h3⟩
theorem c2j(h:∀w₁,R0 Z x w w₁->Stop x g w₁):∃T,W0 Z Stop T x g w:=⟨.leaf,Wk.stop h⟩
theorem J7{T:Array Value}{ds:List Deferred}{i:Nat}{v:Value}(h:T[i]?=some v):Act.eval ⟨T,ds⟩ (.tmp i)=v:=by
 show T.getD i undef=v;rw[Array.getD_eq_getD_getElem?,h];rfl
theorem C9{T:Array Value}{i j:Nat}{v u:Value}(h:T[i]?=some v)(hij:j≠i):(T.setIfInBounds j u)[i]?=some v:=by
 rw[Array.getElem?_setIfInBounds_ne hij];exact h
theorem a0m{T:Array Value}{i:Nat}{u:Value}(h:i<T.size):(T.setIfInBounds i u)[i]?=some u:=by
 rw[Array.getElem?_setIfInBounds_self_of_lt h]
end
end Go.Mw
namespace Go.Zn
section
variable{Z:Zone}{P:Program}
structure POK(Z:Zone)(P:Program):Prop where
 zero:∀t i z,P.info? t=some i->i.zero=some z->VP Z z
 handle:Z.D P.globals.size
 methods:∀t i,Z.T t->P.info? t=some i->∀m∈i.methods,Z.N m.name->∀f p,m.func=some (f,p)->Z.F f
theorem a5P{a:Addr}(h:Z.D a.block):Sf Z P (VP Z) (load a):=⟨h,fun _ hv=>hv⟩
theorem c0A{a:Addr}(h:Z.D a.block):Sf Z P (VP Z) (load a .atomic):=⟨h,fun _ hv=>hv⟩
theorem c0B{a:Addr}(h:Z.D a.block){v:Value}(hv:VP Z v):Sf Z P (fun _=>True) (store a v):=⟨rfl,h,hv,trivial⟩
theorem V8{o:Obj}(h:ObjP Z o):Sf Z P Z.D (newObj o):=⟨h,fun _ hr=>hr⟩
theorem Y2(r:Nat):Sf Z P (fun _=>True) (shape r):=fun _=>trivial
theorem a4t(a:Addr)(n:Nat):Sf Z P (fun _=>True) (freeze a n):=trivial
theorem a2U(a:Addr):Sf Z P (fun _=>True) (frozen a):=fun _=>trivial
theorem U2{r:Nat}(h:Z.D r):Sf Z P (ObjP Z) (getObj r):=⟨h,fun _ ho=>ho⟩
theorem Z5{r:Nat}(h:Z.D r){o:Obj}(ho:ObjP Z o):Sf Z P (fun _=>True) (setObj r o):=⟨h,ho,trivial⟩
theorem L8(q:Question):Sf Z P (fun _=>True) (choose q):=fun _=>trivial
theorem c39:Sf Z P (fun _=>True) (sys .env):=⟨rfl,fun _=>trivial⟩
theorem D9:Sf Z P (fun p=>p=P) program:=rfl
theorem c2o{m:Mark}(h:MarkOK m):Sf Z P (fun _=>True) (mark m):=⟨h,trivial⟩
theorem l7{α:Type}{Q:α->Prop}(x:String):Sf Z P Q (stuck x:Sem α):=trivial
theorem H7{α:Type}{Q:α->Prop}(x:Unsupported)(h:HaltOK (.unsupported x)):Sf Z P Q (unsupported x:Sem α):=h
theorem a0t{α:Type}{Q:α->Prop}(x:Value):Sf Z P Q (goPanic x:Sem α):=trivial
theorem a3q(n:Nat):Sf Z P (fun _=>True) (askRoom n):=by
 unfold askRoom;split
 ·exact c2o trivial
 ·exact Sf.pure trivial
theorem o6(t:TypeId):Sf Z P (fun _=>True) (underlying t):=by
 unfold underlying;refine Sf.bind D9 ?_;rintro _ rfl;split
 ·exact Sf.pure trivial
 ·exact l7 _
theorem I8(t:TypeId):Sf Z P (fun i=>P.info? t=some i) (typeInfo t):=by
 unfold typeInfo;refine Sf.bind D9 ?_;rintro _ rfl;split
 ·rename_i h;exact Sf.pure h
 ·exact l7 _
theorem J4(t:TypeId):Sf Z P (fun _=>True) (sizeOf t):=Sf.bind (I8 t) fun _ _=>trivial
theorem b3n(t:TypeId):Sf Z P (fun _=>True) (isAgg t):=by
 unfold isAgg;refine Sf.bind (o6 t) fun a _=>?_;split<;>exact Sf.pure trivial
theorem a3r(t:TypeId):Sf Z P (fun _=>True) (typeStr t):=by
 unfold typeStr;refine Sf.bind (I8 t) fun a _=>?_;dsimp only;split
 ·exact H7 _ trivial
 ·exact Sf.pure trivial
theorem a0S(t:TypeId):Sf Z P (fun _=>True) (elemOf t):=by
 unfold elemOf;refine Sf.bind (o6 t) fun a _=>?_;split
 ·exact Sf.pure trivial
 ·exact l7 _
theorem S9(hP:POK Z P)(t:TypeId):Sf Z P (VP Z) (zeroValue t):=by
 unfold zeroValue;refine Sf.bind (I8 t) fun i hi=>?_;split
 ·rename_i h;exact Sf.pure (hP.zero _ _ _ hi h)
 ·exact H7 _ trivial
theorem add_block(a:Addr)(n:Nat):(a.add n).block=a.block:=by unfold Addr.add;split<;>rfl
theorem a6D{a:Addr}(h:Z.D a.block)(n:Nat):∀(i:Nat)(acc:Array Value),AP Z acc->Sf Z P (AP Z) (loadCellsFrom a i n acc):=by
 induction n with
 | zero=>intro i acc hA;exact Sf.pure hA
 | succ n ih=>
  intro i acc hA;unfold loadCellsFrom;exact Sf.bind (a5P (by rw[add_block];exact h)) fun v hv=>ih _ _ (hA.push hv)
theorem a1P{a:Addr}(h:Z.D a.block)(n:Nat):Sf Z P (AP Z) (loadCells a n):=a6D h n 0 _ AP.nil
theorem a1r{a:Addr}(h:Z.D a.block):∀(l:List Value)(i:Nat),LP Z l->Sf Z P (fun _=>True) (storeCells a l i):=by
 intro l
 induction l with
 | nil=>intro i _;exact Sf.pure trivial
 | cons v l ih=>
  intro i hl;unfold storeCells;exact Sf.bind (c0B (by rw[add_block];exact h) (hl v (by simp))) fun _ _=>ih _ fun x hx=>hl x (by simp[hx])
theorem a0u(t:TypeId){a:Addr}(h:Z.D a.block):Sf Z P (VP Z) (loadVar t a):=by
 unfold loadVar;refine Sf.bind (b3n t) fun b _=>?_;split
 ·exact Sf.bind (J4 t) fun n _=>Sf.bind (a1P h _) fun c hc=>Sf.pure (.agg c hc)
 ·exact a5P h
theorem a7i(t:TypeId){a:Addr}(h:Z.D a.block){v:Value}(hv:VP Z v):Sf Z P (fun _=>True) (storeVar t a v):=by
 unfold storeVar;refine Sf.bind (J4 t) fun n _=>?_;dsimp only;split
 ·exact l7 _
 ·exact a1r h _ _ hv.cells.list
theorem Z7(t:TypeId){c:Array Value}(h:AP Z c):Sf Z P (fun a=>Z.D a.block) (newRow t c):=Sf.bind (V8 (.cells _ _ _ h)) fun r hr=>Sf.pure hr
theorem a1W(t:TypeId){v:Value}(h:VP Z v):Sf Z P (fun a=>Z.D a.block) (newVar t v):=Z7 t h.cells
theorem a0n(t:TypeId){c:Array Value}(h:AP Z c)(off:Nat):Sf Z P (VP Z) (part t c off):=by
 unfold part;refine Sf.bind (b3n t) fun b _=>?_;split
 ·exact Sf.bind (J4 t) fun n _=>Sf.pure (.agg _ (h.extract _ _))
 ·split
  ·rename_i e;exact Sf.pure (h.get e)
  ·exact l7 _
theorem b7L(hP:POK Z P)(t:TypeId):VP Z (typeHandle P t):=.ptr ⟨P.globals.size,t,none⟩ hP.handle
theorem o9(hP:POK Z P){α:Type}{Q:α->Prop}(e:RuntimeError):Sf Z P Q (runtimePanic e:Sem α):=by
 unfold runtimePanic;refine Sf.bind D9 ?_;rintro p rfl
 cases e with
 | typeAssertion i c a m=>
  have hh:∀o:Option TypeId,VP Z (match o with|some t=>typeHandle p t|none=>.pointer none):=by
   intro o;cases o
   ·exact .pnil
   ·exact b7L hP _
  refine Sf.bind (a0S _) fun x _=>Sf.bind (a1W _ (.agg _ ?_)) fun _ _=>a0t _
  exact(((AP.nil.push (hh i)).push (hh c)).push (hh (some a))).push (.string _)
 | panicNil=>exact Sf.bind (a0S _) fun x _=>Sf.bind (a1W _ (.agg _ AP.nil)) fun _ _=>a0t _
 | _=>exact a0t _
theorem X0(hP:POK Z P){α:Type}{Q:α->Prop}(k:IntKind)(x y:Int)(c:BoundsCode):Sf Z P Q (boundsPanic k x y c:Sem α):=by
 unfold boundsPanic;dsimp only;split
 ·exact Sf.bind (R:=fun _=>True) (Sf.bind (R:=fun _=>True) (L8 _) fun _ _=>Sf.pure trivial) fun _ _=>o9 hP _
 ·exact Sf.bind (R:=fun _=>True) (Sf.pure trivial) fun _ _=>o9 hP _
theorem a3s(v:Value):Sf Z P (fun _=>True) (asIntOf v):=by
 unfold asIntOf;split
 ·exact Sf.pure trivial
 ·exact H7 _ trivial
 ·exact l7 _
theorem a1B(v:Value):Sf Z P (fun _=>True) (asInt v):=Sf.bind (a3s v) fun _ _=>Sf.pure trivial
theorem a4u(v:Value):Sf Z P (fun _=>True) (asBool v):=by
 unfold asBool;split
 ·exact Sf.pure trivial
 ·exact l7 _
theorem c0C{v:Value}(h:VP Z v):Sf Z P (AP Z) (asAgg v):=by
 cases h<;>first|exact Sf.pure (by assumption)|exact l7 _
theorem a1X(hP:POK Z P){v:Value}(h:VP Z v):Sf Z P (fun a=>Z.D a.block) (asAddr v):=by
 cases h with
 | pnil=>exact o9 hP .nilDeref
 | ptr a h=>exact Sf.pure h
 | _=>exact l7 _
theorem a1C{v:Value}(h:VP Z v):Sf Z P (fun a=>Z.D a.block) (Instr.sureAddr v):=by
 cases h with
 | ptr a h=>exact Sf.pure h
 | _=>exact l7 _
theorem a4v{r:Nat}(h:Z.D r):Sf Z P (fun o=>∀a t,o=some (a,t)->Z.D a.block) (viewAt r):=by
 unfold viewAt;refine Sf.bind (Y2 r) fun s _=>?_;split
 ·exact Sf.pure (by simp)
 ·refine Sf.bind (U2 h) fun o ho=>?_
  cases ho with
  | view a t h=>exact Sf.pure (by rintro _ _ ⟨⟩;exact h)
  | _=>exact Sf.pure (by simp)
theorem a7j{r:Nat}(h:Z.D r):Sf Z P (fun o=>∀a t,o=some (a,t)->Z.D a.block) (numberAt r):=by
 unfold numberAt;refine Sf.bind (Y2 r) fun s _=>?_;split
 ·exact Sf.pure (by simp)
 ·refine Sf.bind (U2 h) fun o ho=>?_
  cases ho with
  | number a t h=>exact Sf.pure (by rintro _ _ ⟨⟩;exact h)
  | _=>exact Sf.pure (by simp)
theorem G7{a:Addr}(h:Z.D a.block):Sf Z P (fun p=>Z.D p.1.block) (behindNumber a):=by
 unfold behindNumber;refine Sf.bind (a7j h) fun o ho=>Sf.pure ?_
 cases o with
 | none=>exact h
 | some p=>exact ho _ _ rfl
theorem a7k{a:Addr}(h:Z.D a.block)(l:Bool):Sf Z P (VP Z) (asNumber a l):=Sf.bind (V8 (.number _ _ h)) fun r hr=>Sf.pure (.ptr ⟨r,0,none⟩ hr)
theorem a6E{a:Addr}(h:Z.D a.block):Sf Z P (fun _=>True) (noView a):=by
 unfold noView;refine Sf.bind (a4v h) fun s _=>?_;split
 ·exact H7 _ trivial
 ·exact Sf.pure trivial
theorem a1h(a:Addr):Sf Z P (fun _=>True) (markStringish a):=by
 unfold markStringish;refine Sf.bind (Y2 _) fun s _=>?_;split
 ·exact a4t _ _
 ·exact Sf.pure trivial
theorem a5Q(a:Addr):Sf Z P (fun _=>True) (stringish a):=by
 unfold stringish;refine Sf.bind (a2U _) fun b _=>?_;split
 ·exact Sf.pure trivial
 ·refine Sf.bind (Y2 _) fun s _=>?_;split
  ·exact a2U _
  ·exact Sf.pure trivial
theorem b3o(a b:Addr):Sf Z P (fun _=>True) (mayBeOne a b):=by
 unfold mayBeOne;refine Sf.bind (a5Q _) fun _ _=>Sf.bind (a5Q _) fun _ _=>?_;dsimp only;exact Sf.bind (R:=fun _=>True) (Sf.bind (Y2 _) fun _ _=>Sf.pure trivial) fun _ _=>Sf.bind (R:=fun _=>True) (Sf.bind (Y2 _) fun _ _=>Sf.pure trivial) fun _ _=>Sf.pure trivial
theorem a7l{a b:Addr}(ha:Z.D a.block)(hb:Z.D b.block):Sf Z P (fun _=>True) (sameAddr a b):=by
 unfold sameAddr;split
 ·exact Sf.pure trivial
 refine Sf.bind (a2U _) fun _ _=>Sf.bind (a2U _) fun _ _=>?_;have rest:∀x:Bool,Sf Z P (fun _=>True) (if x then(do return (<-choose (.extern "sameAddr.stringBytes" 2))==1:Sem Bool) else pure false):=fun x=>by
  split
  ·exact Sf.bind (L8 _) fun _ _=>Sf.pure trivial
  ·exact Sf.pure trivial
 split
 ·exact H7 _ trivial
 ·refine Sf.bind (a6E ha) fun _ _=>Sf.bind (a6E hb) fun _ _=>Sf.bind (b3o _ _) fun c _=>?_;exact rest c
theorem b4Z{r:Nat}(h:Z.D r):Sf Z P (fun _=>True) (cellsIn r):=by
 unfold cellsIn;refine Sf.bind (Y2 r) fun s _=>?_;split
 ·exact Sf.pure trivial
 ·refine Sf.bind (U2 h) fun o ho=>?_;split<;>exact Sf.pure trivial
theorem a1i{a:Addr}(h:Z.D a.block):Sf Z P (fun _=>True) (byteOf a):=by
 unfold byteOf;split
 ·exact Sf.pure trivial
 refine Sf.bind D9 ?_;rintro p rfl;refine Sf.bind (a6E h) fun _ _=>Sf.bind (Y2 _) fun s _=>?_;split
 ·dsimp only;split
  ·exact Sf.pure trivial
  ·split
   ·exact Sf.pure trivial
   ·exact l7 _
 ·exact l7 _
theorem b7M{a:Addr}(h:Z.D a.block)(c b:Nat):Sf Z P (fun a=>Z.D a.block) (partAt a c b):=by
 unfold partAt;refine Sf.bind (a1i h) fun _ _=>Sf.bind (a1i h) fun _ _=>Sf.pure ?_;split<;>exact h
theorem a2G{a:Addr}(h:Z.D a.block)(f:Field):Sf Z P (fun a=>Z.D a.block) (fieldPlace a f):=by
 unfold fieldPlace;refine Sf.bind (J4 _) fun _ _=>?_;split
 ·exact b7M h _ _
 ·exact Sf.pure (by rw[add_block];exact h)
theorem a2j(a:Addr)(u:TypeId)(n:Nat):Sf Z P (fun _=>True) (variablesAt a u n):=by
 unfold variablesAt;refine Sf.bind D9 fun _ _=>Sf.bind (Y2 _) fun _ _=>?_;split<;>exact Sf.pure trivial
theorem a5R{a:Addr}(h:Z.D a.block)(n:Nat):∀acc,Sf Z P (fun _=>True) (loadBytes a acc n):=by
 induction n generalizing a with
 | zero=>intro acc;exact Sf.pure trivial
 | succ n ih=>
  intro acc;unfold loadBytes;refine Sf.bind (a5P h) fun v _=>?_;split
  ·exact ih (by rw[add_block];exact h) _
  ·exact l7 _
def c0D{β:Type}(I:β->Prop):ForInStep β->Prop
 | .yield b=>I b
 | .done b=>I b
theorem b3p{α β:Type}{I:β->Prop}(l:List α){b:β}(hb:I b){f:α->β->Sem (ForInStep β)}(h:∀x∈l,∀b,I b->Sf Z P (c0D I) (f x b)):Sf Z P I (forIn l b f):=by
 induction l generalizing b with
 | nil=>exact Sf.pure hb
 | cons x l ih=>
  rw[List.forIn_cons];refine Sf.bind (h x (by simp) b hb) fun s hs=>?_
  cases s with
  | done b=>exact Sf.pure hs
  | yield b=>exact ih hs fun y hy=>h y (by simp[hy])
theorem a2V{α β:Type}{I:β->Prop}(l:Array α){b:β}(hb:I b){f:α->β->Sem (ForInStep β)}(h:∀x∈l,∀b,I b->Sf Z P (c0D I) (f x b)):Sf Z P I (forIn l b f):=by
 rw[<-Array.forIn_toList];exact b3p _ hb fun x hx=>h x (by simpa using hx)
theorem a6F{β:Type}{I:β->Prop}(r:Std.Legacy.Range){b:β}(hb:I b){f:Nat->β->Sem (ForInStep β)}(h:∀x,∀b,I b->Sf Z P (c0D I) (f x b)):Sf Z P I (forIn r b f):=by
 rw[Std.Legacy.Range.forIn_eq_forIn_range'];exact b3p _ hb fun x _=>h x
theorem b50{α β:Type}{I:β->Prop}(l:Array α)(f:α->Sem β)(h:∀x∈l,Sf Z P I (f x)):Sf Z P (fun r=>∀y∈r,I y) (l.mapM f):=by
 have key:∀l:List α,(∀x∈l,Sf Z P I (f x))->Sf Z P (fun r=>∀y∈r,I y) (l.mapM f):=by
  intro l
  induction l with
  | nil=>intro _;exact Sf.pure (by simp)
  | cons x l ih=>
   intro h;rw[List.mapM_cons];refine Sf.bind (h x (by simp)) fun y hy=>Sf.bind (ih fun z hz=>h z (by simp[hz])) fun ys hys=>Sf.pure ?_;intro z hz;rcases List.mem_cons.1 hz with rfl|hz
   ·exact hy
   ·exact hys z hz
 rw[Array.mapM_eq_mapM_toList];show Sf Z P _ (Functor.map List.toArray _);rw[map_eq_pure_bind];refine Sf.bind (key l.toList fun x hx=>h x (by simpa using hx)) fun ys hys=>Sf.pure ?_;intro y hy;exact hys y (by simpa using hy)
end
end Go.Zn
