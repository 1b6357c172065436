/- A part of what the last file proves. -/
import Derived.Test.YtgpbhjjajpbeeaaGreatDoorL17
set_option linter.all false
namespace Go.Bi
section
variable{S:Sit}{P:Program}
structure PQG(S:Sit)(P:Program):Prop extends PGK S P where
 high':∀b,S.D b->P.globals.size<=S.ren b
theorem c30(hP:PGK S P){a b:Addr}(ha:S.D a.block)(hb:S.D b.block):(rA S a==rA S b)=(a==b):=by
 rw[Bool.eq_iff_iff,beq_iff_eq,beq_iff_eq];refine⟨fun h=>?_,fun h=>by rw[h]⟩;obtain⟨x,i,s⟩:=a;obtain⟨y,j,u⟩:=b;unfold rA at h;injection h with h1 h2 h3;have:=hP.inj _ _ ha hb h1;dsimp only at this h2 h3;subst this;subst h2;subst h3;rfl
theorem c2d(hP:PQG S P)(d:Nat)(t:TypeId){k:IntKind}(ht:P.underlying t=some (.int k)){x x' y y':Value}(hx:VR S x x')(hy:VR S y y'):Im S P (fun a b=>b=a) (Op.equalIn (d+1) t x y) (Op.equalIn (d+1) t x' y'):=by
 rw[Op.equalIn,Op.equalIn];refine Im.bind (F5 t) ?_;rintro _ td ⟨rfl,h⟩;rw[ht] at h;injection h with h;subst h
 cases hx with
 | int k1 a=>
  cases hy with
  | int k2 b=>exact a0k _ (fun _=>Im.pure rfl) fun _=>A8 _ _
  | ptr b hb=>
   by_cases e:a=0
   ·subst e;exact Im.pure rfl
   ·dsimp only;split<;>first|exact Im.pure rfl|(rename_i h _;cases h)|skip
    all_goals first|exact A7 _ _|exact absurd (by simp_all) e|skip
    all_goals simp_all
  | _=>first|exact A7 _ _|exact A8 _ _
 | ptr a ha=>
  cases hy with
  | int k2 b=>
   by_cases e:b=0
   ·subst e;exact Im.pure rfl
   ·dsimp only;split<;>first|exact Im.pure rfl|skip
    all_goals first|exact A7 _ _|exact absurd (by simp_all) e|skip
    all_goals simp_all
  | ptr b hb=>
   dsimp only;refine Im.bind (U3 ha) ?_;rintro⟨p,l⟩ _ ⟨hp,rfl⟩;refine Im.bind (U3 hb) ?_;rintro⟨q,l'⟩ _ ⟨hq,rfl⟩;refine Im.bind Y8 ?_;rintro p0 p0' ⟨h0,h0'⟩;rw[h0,h0'];have e1:¬(p.block==q.block&&decide (p.block<P.globals.size))=true:=by simp;intro _;exact hP.high _ hp
   have e2:¬((rA S p).block==(rA S q).block&&decide ((rA S p).block<P.globals.size))=true:=by
    have h3:decide ((rA S p).block<P.globals.size)=false:=decide_eq_false (by have h4:P.globals.size<=S.ren p.block:=hP.high' _ hp;simp only[b2s];omega);rw[h3];simp
   dsimp only;rw[if_neg e1,if_neg e2];refine Im.bind (Y1 t) ?_;rintro _ i ⟨rfl,_⟩;rw[c30 hP.toPGK hp hq];split
   ·exact a0k _ (fun _=>Im.pure rfl) fun _=>A7 _ _
   ·exact A7 _ _
  | _=>first|exact A7 _ _|exact A8 _ _
 | pnil=>cases hy<;>first|exact A7 _ _|exact A8 _ _
 | _=>cases hy<;>first|exact A7 _ _|exact A8 _ _
theorem c5j(hP:PQG S P)(t:TypeId){k:IntKind}(ht:P.underlying t=some (.int k)){x x' y y':Value}(hx:VR S x x')(hy:VR S y y'):Im S P (fun a b=>b=a) (Op.equal t x y) (Op.equal t x' y'):=c2d hP 9999 t ht hx hy
theorem b2w(op:BinOp)(t:TypeId){k:IntKind}(ht:P.underlying t=some (.int k))(x y:Operand){a a' b b':Value}(ha:VR S a a')(hb:VR S b b'):Im S P (fun _ _=>True) (eqGuard op t x y a b) (eqGuard op t x y a' b'):=by
 have key:∀(u:Unsupported){a a' b b':Value},Im S P (fun _ _=>True) (do if <-Op.eqGuardIn Op.maxDepth t a b then unsupported u:Sem Unit) (do if <-Op.eqGuardIn Op.maxDepth t a' b' then unsupported u:Sem Unit):=by
  intro u a a' b b';refine Im.bind (R:=fun a b=>a=false/\b=false) ?_ ?_
  ·show Im S P _ (Op.eqGuardIn (9999+1) t a b) (Op.eqGuardIn (9999+1) t a' b');rw[Op.eqGuardIn,Op.eqGuardIn];refine Im.bind (F5 t) ?_;rintro _ td ⟨rfl,h⟩;rw[ht] at h;injection h with h;subst h;exact Im.pure ⟨rfl,rfl⟩
  ·rintro _ _ ⟨rfl,rfl⟩;exact Im.pure trivial
 unfold eqGuard;refine a0k _ (fun _=>Im.pure trivial) fun _=>?_
 cases ha with
 | nilIface=>
  cases hb with
  | nilIface=>exact a0k _ (fun _=>Im.pure trivial) fun _=>key _
  | _=>exact Im.pure trivial
 | agg c c' hc hc'=>
  cases hb with
  | agg e e' he he'=>
   dsimp only;refine Im.bind Y8 ?_;rintro p0 p0' ⟨h0,h0'⟩;rw[h0,h0'];refine Im.bind Y8 ?_;rintro p1 p1' ⟨h1,h1'⟩;rw[h1,h1']
   exact a0k _ (fun _=>Im.pure trivial) fun _=>key _
  | _=>exact Im.pure trivial
 | _=>cases hb<;>exact Im.pure trivial
theorem b2x(op:BinOp)(t:TypeId)(x:Operand){a a':Value}(ha:VR S a a'):Im S P (fun _ _=>True) (eqGuard op t x (.const .nilIface) a .nilIface) (eqGuard op t x (.const .nilIface) a' .nilIface):=by
 unfold eqGuard;refine a0k _ (fun _=>Im.pure trivial) fun _=>?_
 cases ha with
 | nilIface=>exact a0k _ (fun _=>Im.pure trivial) fun h=>absurd (by simp) h
 | _=>exact Im.pure trivial
theorem b9f(t:TypeId){ms:Array (String×TypeId)}(ht:P.underlying t=some (.interface ms)){x x':Value}(hx:VR S x x'):Im S P (fun a b=>b=a) (Op.equal t x .nilIface) (Op.equal t x' .nilIface):=by
 show Im S P _ (Op.equalIn (9999+1) t x _) (Op.equalIn (9999+1) t x' _);rw[Op.equalIn,Op.equalIn];refine Im.bind (F5 t) ?_;rintro _ td ⟨rfl,h⟩;rw[ht] at h;injection h with h;subst h;cases hx<;>first|exact Im.pure rfl|exact A8 _ _
inductive b5Q(P:Program)(t:TypeId):Operand->Prop
 | int (k:IntKind) (ht:P.underlying t=some (.int k)) (y:Operand):b5Q P t y
 | nil (ms:Array (String×TypeId)) (ht:P.underlying t=some (.interface ms)):b5Q P t (.const .nilIface)
theorem b2y(op:BinOp)(ho:op=.eql\/op=.neq)(t:TypeId){x x' y y':Value}(hx:VR S x x')(hy:VR S y y')(h:Im S P (fun a b=>b=a) (Op.equal t x y) (Op.equal t x' y')):Im S P (VR S) (binOp op t x y) (binOp op t x' y'):=by
 have k1:Im S P (VR S) (do pure (.bool (<-Op.equal t x y)):Sem Value) (do pure (.bool (<-Op.equal t x' y')):Sem Value):=Im.bind h fun a b e=>by subst e;exact Im.pure (.bool _)
 have k2:Im S P (VR S) (do pure (.bool (!(<-Op.equal t x y))):Sem Value) (do pure (.bool (!(<-Op.equal t x' y'))):Sem Value):=Im.bind h fun a b e=>by subst e;exact Im.pure (.bool _)
 rcases ho with rfl|rfl
 ·cases hx<;>cases hy<;>first|exact a6r _ _ _ _ _ _|exact k1|exact a3Q .eql _ _
 ·cases hx<;>cases hy<;>first|exact a6r _ _ _ _ _ _|exact k2|exact a3Q .neq _ _
theorem b9g{β β':Type}{Q:β->β'->Prop}{l l':List Value}(hl:LR (VR S) l l'){b:β}{b':β'}(hb:Q b b'){f:Value->β->Sem (ForInStep β)}{f':Value->β'->Sem (ForInStep β')}
 (hf:∀x x' b b',VR S x x'->Q b b'->Im S P (fun r r'=>(∃c c',r=.yield c/\r'=.yield c'/\Q c c')\/∃c c',r=.done c/\r'=.done c'/\Q c c') (f x b) (f' x' b')):
 Im S P Q (forIn l b f) (forIn l' b' f'):=by
 induction hl generalizing b b' with
 | nil=>simp only[List.forIn_nil];exact Im.pure hb
 | cons hx _ ih=>
  simp only[List.forIn_cons];refine Im.bind (hf _ _ _ _ hx hb) ?_;rintro r r' (⟨c,c',rfl,rfl,h⟩|⟨c,c',rfl,rfl,h⟩)
  ·exact ih h
  ·exact Im.pure h
theorem a6s{x x':Value}(hx:VR S x x'):Im S P (VR S) (Conv.bytesToString x) (Conv.bytesToString x'):=by
 unfold Conv.bytesToString
 cases hx with
 | snil=>exact Im.pure (.string _)
 | slice a n c ha=>
  dsimp only;refine Im.bind (a3g ha _) ?_;intro cs cs' hc;refine Im.bind (R:=fun a b=>b=a) ?_ ?_
  ·rw[<-Array.forIn_toList,<-Array.forIn_toList];refine b9g (Q:=fun a b=>b=a) hc.list rfl ?_;rintro y y' s _ hy rfl
   cases hy with
   | int k m=>cases k<;>first|exact Im.pure (.inl ⟨_,_,rfl,rfl,rfl⟩)|exact A8 _ _
   | _=>exact A8 _ _
  ·rintro s _ rfl;exact Im.pure (.string _)
 | _=>exact A8 _ _
inductive c33(P:Program)(s d:TypeId):Prop
 | int (k k':IntKind) (hs:P.underlying s=some (.int k)) (hd:P.underlying d=some (.int k'))
 | bytes (e:TypeId) (hs:P.underlying s=some (.slice e)) (he:P.underlying e=some (.int .u8)) (hd:P.underlying d=some .string)
theorem b35{s d:TypeId}(h:c33 P s d){x x':Value}(hx:VR S x x'):Im S P (VR S) (convert s d x) (convert s d x'):=by
 unfold convert;refine Im.bind (F5 s) ?_;rintro _ ts ⟨rfl,h1⟩;refine Im.bind (F5 d) ?_;rintro _ td ⟨rfl,h2⟩
 cases h with
 | int k k' hs hd=>
  rw[hs] at h1;injection h1 with h1;subst h1;rw[hd] at h2;injection h2 with h2;subst h2
  cases hx<;>first|exact Im.pure (.int _ _)|exact A7 _ _
 | bytes e hs he hd=>
  rw[hs] at h1;injection h1 with h1;subst h1;rw[hd] at h2;injection h2 with h2;subst h2;have key:∀{x x':Value},VR S x x'->Im S P (VR S) (do match <-underlying e with|.int .u8=>Conv.bytesToString x|.int .i32=>Conv.runesToString x|_=>stuck "Convert: a slice of what to string?":Sem Value) (do match <-underlying e with|.int .u8=>Conv.bytesToString x'|.int .i32=>Conv.runesToString x'|_=>stuck "Convert: a slice of what to string?":Sem Value):=by
   intro x x' hx;refine Im.bind (F5 e) ?_;rintro _ te ⟨rfl,h3⟩;rw[he] at h3;injection h3 with h3;subst h3;exact a6s hx
  cases hx with
  | int k n=>exact Im.pure (.string _)
  | string s=>exact Im.pure (.string _)
  | _=>exact key (by constructor<;>assumption)
end
section
variable{S:Sit}{P:Program}
theorem c36(ts:Array TypeId)(t:TypeId){e:TypeId}(ht:∀u,ts[0]?=some u->P.underlying u=some (.slice e)){args args':Array Value}(h:AR S args args'):Im S P (VR S) (Builtin.len_ ts t args) (Builtin.len_ ts t args'):=by
 unfold Builtin.len_
 cases h0:ts[0]? with
 | none=>exact A8 _ _
 | some u=>
  rcases h.get? 0 with⟨e1,e2⟩|⟨x,x',e1,e2,hx⟩
  ·rw[e1,e2];exact A8 _ _
  ·rw[e1,e2];dsimp only;refine Im.bind (F5 u) ?_;rintro _ d ⟨rfl,hd⟩;rw[ht u h0] at hd;injection hd with hd;subst hd;cases hx<;>first|exact Im.pure (.int _ _)|exact A8 _ _
theorem a5w{x x':Value}(h:VR S x x'):Im S P (fun a b=>b=a) (Builtin.lenOf x) (Builtin.lenOf x'):=by
 cases h<;>first|exact Im.pure rfl|exact A8 _ _
theorem b9h(s:ByteArray)(n:Nat):AR S ((s.extract 0 n).data.map fun b=>.int .u8 b.toNat) ((s.extract 0 n).data.map fun b=>.int .u8 b.toNat):=
 ⟨rfl,fun i h1 h2=>by simp only[Array.getElem_map];exact .int _ _⟩
theorem V7(size n:Nat){x x':Value}(h:VR S x x'):Im S P (AR S) (Builtin.firstCells size n x) (Builtin.firstCells size n x'):=by
 cases h with
 | snil=>exact Im.pure AR.nil
 | slice a l c ha=>exact a3g ha _
 | string s=>exact Im.pure (b9h s n)
 | _=>exact A8 _ _
theorem a0Y{z z':Array Value}(h:AR S z z')(n:Nat):AR S (Builtin.zeroCells z n) (Builtin.zeroCells z' n):=by
 unfold Builtin.zeroCells;rw[h.size];exact h.size▸a4H h (n*z.size)
theorem a2q{α β:Type}{R:α->β->Prop}(size sLen n c:Nat){base base':Option Addr}(hb:VR S (.slice base sLen c) (.slice base' sLen c)){x x':Value}(hx:VR S x x'){f:Bool->Sem α}{f':Bool->Sem β}(hf:∀b,Hs P (f b))(him:∀b,Im S P R (f b) (f' b)):
 Im S P R (Builtin.mayShare size sLen n base x >>= f) (Builtin.mayShare size sLen n base' x' >>= f'):=by
 have key:∀{s:Sem α}{r:Nat}{k:Option (TypeId×Nat)->Sem α}{s':Sem β},s=.shape r k->Hs P s->Im S P R s s':=by
  rintro _ r k s' rfl h;exact Im.shape_hs h
 cases hb with
 | snil=>
  cases hx with
  | slice b l c hb=>exact key (r:=b.block) rfl (Hs.behind _ hf)
  | _=>exact him false
 | slice a l c ha=>exact key (r:=a.block) rfl (Hs.behind _ hf)
theorem b1p{α:Type}(b:Bool)(x:Unsupported):Hs P (if (!b)=true then do mark .noRoom;(unsupported x:Sem α) else unsupported x):=by
 cases b<;>exact(trivial:Hs P (unsupported x:Sem α))
theorem b1q{α β:Type}{R:α->β->Prop}(b:Bool)(x:Unsupported):Im S P R (if (!b)=true then do mark .noRoom;(unsupported x:Sem α) else unsupported x) (if (!b)=true then do mark .noRoom;(unsupported x:Sem β) else unsupported x):=
 a0k _ (fun _=>Im.bind (b5P trivial) fun _ _ _=>A7 _ _) fun _=>A7 _ _
theorem b6J(ts:Array TypeId)(t:TypeId){e:TypeId}(ht:∀u,ts[0]?=some u->P.underlying u=some (.slice e))(hz:ZOK S P e){e':TypeId}(ht':∀u,ts[1]?=some u->P.underlying u=some (.slice e'))
 {args args':Array Value}(h:AR S args args'):Im S P (VR S) (Builtin.append_ ts t args) (Builtin.append_ ts t args'):=by
 unfold Builtin.append_
 cases h0:ts[0]? with
 | none=>exact A8 _ _
 | some u=>
  rcases h.get? 0 with⟨e1,e2⟩|⟨s,s',e1,e2,hs⟩
  ·rw[e1,e2];exact A8 _ _
  rcases h.get? 1 with⟨e3,e4⟩|⟨x,x',e3,e4,hx⟩
  ·rw[e1,e2,e3,e4];exact A8 _ _
  rw[e1,e2,e3,e4];dsimp only;refine Im.bind (F5 u) ?_;rintro _ d ⟨rfl,hd⟩;rw[ht u h0] at hd;injection hd with hd;subst hd;dsimp only;have hs0:=hs;have hz0:∀n,Im S P (AR S) (do pure (Builtin.zeroCells (<-zeroValue e).cells n):Sem (Array Value)) (do pure (Builtin.zeroCells (<-zeroValue e).cells n)):=fun n=>Im.bind (Y2 e hz) fun z z' hz=>Im.pure (a0Y hz.cells n);have hpan:∀{α β α':Type}{R:α->β->Prop}(er:RuntimeError)(he:eOK er)(g:α'->Sem α)(g':α'->Sem β),Im S P R (runtimePanic er >>= g) (runtimePanic er >>= g'):=fun er he g g'=>Im.bind (R:=fun _ _=>False) (P6 er he) fun _ _ h=>h.elim
  cases hs with
  | snil l c=>
   cases h1:ts[1]? with
   | none=>
    dsimp only;refine Im.bind (U1 _) ?_;rintro size _ rfl;simp only[Bool.false_eq_true,if_false,Bool.not_false,if_true,pure_bind,false_or]
    repeat' first
     | with_reducible exact Im.pure (.snil _ _)
     | with_reducible exact Im.pure (.slice _ _ _ (by assumption))
     | (with_reducible refine Im.bind (Y1 _) ?_;rintro _ _ ⟨rfl,_⟩)
     | (with_reducible refine Im.bind (a5w hx) ?_;rintro _ _ rfl)
     | (with_reducible refine Im.bind (a2N _) ?_;rintro _ _ rfl)
     | (with_reducible refine Im.bind (a3f _) ?_;intro _ _ _)
     | (with_reducible refine Im.bind (V7 _ _ hs0) ?_;intro old old' hold)
     | (with_reducible refine Im.bind (V7 _ _ hx) ?_;intro new new' hnew)
     | (with_reducible refine Im.bind (Y2 e hz) ?_;intro z z' hzz)
     | (rw[<-a14];refine Im.bind (a0E (by rw[add_block];assumption) _ _ _ (AR.list (by assumption))) ?_;intro _ _ _)
     | (with_reducible refine Im.bind (a1T _ ((AR.append (by assumption) (by assumption)).append (a0Y (VR.cells (by assumption)) _))) ?_;rintro _ _ ⟨_,rfl⟩)
     | (refine hpan _ ?_ _ _;trivial)
     | exact Im.bind (R:=fun _ _=>False) (a2q _ _ _ _ hs0 hx (fun b=>b1p b _) (fun b=>b1q b _)) fun _ _ h=>h.elim
     | with_reducible refine a0k _ (fun _=>?_) fun _=>?_
   | some u1=>
    dsimp only;refine Im.bind (U1 _) ?_;rintro size _ rfl;refine Im.bind (F5 u1) ?_;rintro _ d ⟨rfl,hd⟩;rw[ht' u1 h1] at hd;injection hd with hd;subst hd;simp only[Bool.false_eq_true,if_false,Bool.not_false,if_true,pure_bind,false_or]
    repeat' first
     | with_reducible exact Im.pure (.snil _ _)
     | with_reducible exact Im.pure (.slice _ _ _ (by assumption))
     | (with_reducible refine Im.bind (Y1 _) ?_;rintro _ _ ⟨rfl,_⟩)
     | (with_reducible refine Im.bind (a5w hx) ?_;rintro _ _ rfl)
     | (with_reducible refine Im.bind (a2N _) ?_;rintro _ _ rfl)
     | (with_reducible refine Im.bind (a3f _) ?_;intro _ _ _)
     | (with_reducible refine Im.bind (V7 _ _ hs0) ?_;intro old old' hold)
     | (with_reducible refine Im.bind (V7 _ _ hx) ?_;intro new new' hnew)
     | (with_reducible refine Im.bind (Y2 e hz) ?_;intro z z' hzz)
     | (rw[<-a14];refine Im.bind (a0E (by rw[add_block];assumption) _ _ _ (AR.list (by assumption))) ?_;intro _ _ _)
     | (with_reducible refine Im.bind (a1T _ ((AR.append (by assumption) (by assumption)).append (a0Y (VR.cells (by assumption)) _))) ?_;rintro _ _ ⟨_,rfl⟩)
     | (refine hpan _ ?_ _ _;trivial)
     | exact Im.bind (R:=fun _ _=>False) (a2q _ _ _ _ hs0 hx (fun b=>b1p b _) (fun b=>b1q b _)) fun _ _ h=>h.elim
     | with_reducible refine a0k _ (fun _=>?_) fun _=>?_
  | slice a l c ha=>
   cases h1:ts[1]? with
   | none=>
    dsimp only;refine Im.bind (U1 _) ?_;rintro size _ rfl;simp only[Bool.false_eq_true,if_false,Bool.not_false,if_true,pure_bind,false_or]
    repeat' first
     | with_reducible exact Im.pure (.snil _ _)
     | with_reducible exact Im.pure (.slice _ _ _ (by assumption))
     | (with_reducible refine Im.bind (Y1 _) ?_;rintro _ _ ⟨rfl,_⟩)
     | (with_reducible refine Im.bind (a5w hx) ?_;rintro _ _ rfl)
     | (with_reducible refine Im.bind (a2N _) ?_;rintro _ _ rfl)
     | (with_reducible refine Im.bind (a3f _) ?_;intro _ _ _)
     | (with_reducible refine Im.bind (V7 _ _ hs0) ?_;intro old old' hold)
     | (with_reducible refine Im.bind (V7 _ _ hx) ?_;intro new new' hnew)
     | (with_reducible refine Im.bind (Y2 e hz) ?_;intro z z' hzz)
     | (rw[<-a14];refine Im.bind (a0E (by rw[add_block];assumption) _ _ _ (AR.list (by assumption))) ?_;intro _ _ _)
     | (with_reducible refine Im.bind (a1T _ ((AR.append (by assumption) (by assumption)).append (a0Y (VR.cells (by assumption)) _))) ?_;rintro _ _ ⟨_,rfl⟩)
     | (refine hpan _ ?_ _ _;trivial)
     | exact Im.bind (R:=fun _ _=>False) (a2q _ _ _ _ hs0 hx (fun b=>b1p b _) (fun b=>b1q b _)) fun _ _ h=>h.elim
     | with_reducible refine a0k _ (fun _=>?_) fun _=>?_
   | some u1=>
    dsimp only;refine Im.bind (U1 _) ?_;rintro size _ rfl;refine Im.bind (F5 u1) ?_;rintro _ d ⟨rfl,hd⟩;rw[ht' u1 h1] at hd;injection hd with hd;subst hd;simp only[Bool.false_eq_true,if_false,Bool.not_false,if_true,pure_bind,false_or]
    repeat' first
     | with_reducible exact Im.pure (.snil _ _)
     | with_reducible exact Im.pure (.slice _ _ _ (by assumption))
     | (with_reducible refine Im.bind (Y1 _) ?_;rintro _ _ ⟨rfl,_⟩)
     | (with_reducible refine Im.bind (a5w hx) ?_;rintro _ _ rfl)
     | (with_reducible refine Im.bind (a2N _) ?_;rintro _ _ rfl)
     | (with_reducible refine Im.bind (a3f _) ?_;intro _ _ _)
     | (with_reducible refine Im.bind (V7 _ _ hs0) ?_;intro old old' hold)
     | (with_reducible refine Im.bind (V7 _ _ hx) ?_;intro new new' hnew)
     | (with_reducible refine Im.bind (Y2 e hz) ?_;intro z z' hzz)
     | (rw[<-a14];refine Im.bind (a0E (by rw[add_block];assumption) _ _ _ (AR.list (by assumption))) ?_;intro _ _ _)
     | (with_reducible refine Im.bind (a1T _ ((AR.append (by assumption) (by assumption)).append (a0Y (VR.cells (by assumption)) _))) ?_;rintro _ _ ⟨_,rfl⟩)
     | (refine hpan _ ?_ _ _;trivial)
     | exact Im.bind (R:=fun _ _=>False) (a2q _ _ _ _ hs0 hx (fun b=>b1p b _) (fun b=>b1q b _)) fun _ _ h=>h.elim
     | with_reducible refine a0k _ (fun _=>?_) fun _=>?_
  | _=>exact A8 _ _
end
section
variable{S:Sit}{P:Program}
def b2z(S:Sit):Operand->Prop
 | .tmp _=>True
 | .const v=>VR S v v
 | .global _=>False
 | .func f=>S.F f
def b9i(S:Sit)(P:Program)(c:Call):Prop:=
 match c.callee with
 | .value (.func f)=>S.F f
 | .builtin .len=>∃e,∀u,c.argTypes[0]?=some u->P.underlying u=some (.slice e)
 | .builtin .append=>∃e e',(∀u,c.argTypes[0]?=some u->P.underlying u=some (.slice e))/\ZOK S P e/\∀u,c.argTypes[1]?=some u->P.underlying u=some (.slice e')
 | _=>False
def OpB(S:Sit)(P:Program):Op->Prop
 | .move _|.assign _|.pick .. | .load .. | .store .. | .nilCheck _|.extract .. | .indexAddr .. | .slice .. | .unOp ..=>True
 | .alloc t=>ZOK S P t
 | .build t _=>ZOK S P t
 | .buildSlice t _ _=>∀e,P.underlying t=some (.slice e)->ZOK S P e
 | .binOp op t _ y _=>c2c op=true\/((op=.eql\/op=.neq)/\b5Q P t y)
 | .convert s d _=>c33 P s d
 | .makeInterface t _=>S.T t
 | .fieldAddr s _ f=>∀fs g i,P.underlying s=some (.struct fs)->fs[f]?=some g->P.info? g.type=some i->i.size≠0
 | .call c=>b9i S P c
 | _=>False
inductive a5x(S:Sit):Next->Next->Prop
 | value (v v':Value) (h:VR S v v'):a5x S (.value v) (.value v')
 | skip:a5x S .skip .skip
 | enter (f:FuncId) (args args':Array Value) (hf:S.F f) (h:AR S args args'):a5x S (.enter f args) (.enter f args')
theorem a4E{s s':Sem Value}(h:Im S P (VR S) s s'):Im S P (a5x S) (do pure (.value (<-s))) (do pure (.value (<-s'))):=Im.bind h fun _ _ hv=>Im.pure (.value _ _ hv)
theorem c6q{s s':Sem Unit}(h:Im S P (fun _ _=>True) s s'):Im S P (a5x S) (do s;pure .skip) (do s';pure .skip):=Im.bind h fun _ _ _=>Im.pure .skip
structure PQB(S:Sit)(P:Program):Prop extends PQG S P where
 body:∀f,S.F f->∃fn,P.funcs[f]?=some fn/\fn.body.isNone=false/\(fn.name== "runtime.NumGoroutine")=false
theorem PQB.pok(h:PQB S P):POK S P:=⟨h.inj⟩
theorem b2A(hP:PQB S P){f:FuncId}(hf:S.F f){args args':Array Value}(h:AR S args args'):Im S P (a5x S) (callFunc f args) (callFunc f args'):=by
 obtain⟨fn,h1,h2,h3⟩:=hP.body f hf;unfold callFunc;refine Im.bind Y8 ?_;rintro p p' ⟨h0,h0'⟩;rw[h0,h0',h1];dsimp only;rw[h3,h2];exact Im.pure (.enter f _ _ hf h)
theorem c38{l:Array Operand}{ρ ρ':Operand->Value}(h:∀x∈l,VR S (ρ x) (ρ' x)):AR S (l.map ρ) (l.map ρ'):=
 ⟨by simp,fun i h1 h2=>by simp only[Array.getElem_map];exact h _ (Array.getElem_mem _)⟩
theorem b36{l:Option Operand}{ρ ρ':Operand->Value}(h:∀x,l=some x->VR S (ρ x) (ρ' x)):OR S (l.map ρ) (l.map ρ'):=by
 cases l with
 | none=>exact .none
 | some x=>exact .some (h x rfl)
theorem b2B{ps:Array (Nat×Operand)}{ρ ρ':Operand->Value}(h:∀p∈ps,VR S (ρ p.2) (ρ' p.2)):LR (PR (S:=S)) (ps.map fun(i,x)=>(i,ρ x)).toList (ps.map fun(i,x)=>(i,ρ' x)).toList:=by
 obtain⟨l⟩:=ps;simp only[List.map_toArray]
 induction l with
 | nil=>exact .nil
 | cons p l ih=>
  exact .cons ⟨rfl,h p (by simp)⟩ (ih fun q hq=>h q (by simp at hq⊢;exact .inr hq))
theorem b6K(hP:PQB S P){ρ ρ':Operand->Value}{o:Oper}(hk:OpB S P o.op)(hρ:∀x∈o.op.operands,VR S (ρ x) (ρ' x))(hc:∀v,ρ (.const v)=v/\ρ' (.const v)=v)(hfn:∀f,ρ (.func f)=.func (.func f) #[] #[]/\ρ' (.func f)=.func (.func f) #[] #[]):
 Im S P (a5x S) (execOp ρ o) (execOp ρ' o):=by
 obtain⟨dst,op,type,pos,after,guard⟩:=o;dsimp only at hk hρ;have hv:∀x,x∈op.operands->VR S (ρ x) (ρ' x):=hρ;unfold execOp
 cases op with
 | move x=>exact Im.pure (.value _ _ (hv x (by simp[Op.operands])))
 | assign x=>exact Im.pure (.value _ _ (hv x (by simp[Op.operands])))
 | pick c a b=>
  refine Im.bind (b6D (hv c (by simp[Op.operands]))) ?_;rintro t _ rfl;refine Im.pure (.value _ _ ?_);split
  ·exact hv a (by simp[Op.operands])
  ·exact hv b (by simp[Op.operands])
 | alloc e=>exact a4E (b88 _ hk)
 | build t ps=>
  refine a4E (b9a _ hk (b2B fun p hp=>hv p.2 ?_))
  simp[Op.operands];exact⟨p.1,by simpa using hp⟩
 | buildSlice t l ps=>
  refine a4E (a9F _ hk _ (b2B fun p hp=>hv p.2 ?_))
  simp[Op.operands];exact⟨p.1,by simpa using hp⟩
 | load t a=>exact a4E (b6F _ (hv a (by simp[Op.operands])))
 | store t a x=>exact c6q (b3Y _ (hv a (by simp[Op.operands])) (hv x (by simp[Op.operands])))
 | nilCheck x=>
  have h:=hv x (by simp[Op.operands]);dsimp only;generalize ρ x=v at h;generalize ρ' x=v' at h;have h0:=h
  cases h with
  | pnil=>exact P6 _ trivial
  | nilIface=>exact P6 _ trivial
  | func fn fn' f f' c c' hf=>cases hf;exact Im.pure (.value _ _ h0)
  | _=>exact Im.pure (.value _ _ h0)
 | binOp op t x y u=>
  have hx:=hv x (by simp[Op.operands]);have hy:=hv y (by simp[Op.operands]);rcases hk with hk|⟨hk,hcmp⟩
  ·refine a4E (Im.bind (R:=fun _ _=>True) ?_ fun _ _ _=>b9e hP.toPGK _ hk _ hx hy);cases op<;>first|exact absurd hk (by decide)|exact Im.pure trivial
  ·cases hcmp with
   | int k ht=>exact a4E (Im.bind (b2w _ _ ht _ _ hx hy) fun _ _ _=>b2y _ hk _ hx hy (c5j hP.toPQG _ ht hx hy))
   | nil ms ht=>
    dsimp only;rw[(hc .nilIface).1,(hc .nilIface).2] at hy⊢
    exact a4E (Im.bind (b2x _ _ _ hx) fun _ _ _=>b2y _ hk _ hx hy (b9f _ ht hx))
 | unOp op t x=>exact a4E (b9d _ (hv x (by simp[Op.operands])))
 | convert s d x=>exact a4E (b35 hk (hv x (by simp[Op.operands])))
 | makeInterface t x=>exact a4E (a6q _ hk (hv x (by simp[Op.operands])))
 | slice t x l h m=>exact a4E (b31 hP.pok _ (hv x (by simp[Op.operands])) (b36 fun y e=>hv y (by simp[Op.operands,e])) (b36 fun y e=>hv y (by simp[Op.operands,e])) (b36 fun y e=>hv y (by simp[Op.operands,e])))
 | fieldAddr s x f=>exact a4E (b3Z _ _ hk (hv x (by simp[Op.operands])))
 | indexAddr t x i=>exact a4E (b30 hP.pok _ (hv x (by simp[Op.operands])) (hv i (by simp[Op.operands])))
 | extract x i=>exact a4E (b33 _ (hv x (by simp[Op.operands])))
 | call c=>
  obtain⟨callee,args,tys⟩:=c;have ha:AR S (args.map ρ) (args.map ρ'):=c38 fun x hx=>hv x (by simp[Op.operands,Call.operands,hx])
  cases callee with
  | value f=>
   cases f with
   | func f=>
    unfold resolve;dsimp only;rw[(hfn f).1,(hfn f).2];show Im S P (a5x S) (callFunc f ((#[]++args.map ρ)++#[])) (callFunc f ((#[]++args.map ρ')++#[]));simp only[Array.empty_append,Array.append_empty]
    exact b2A hP hk ha
   | _=>exact hk.elim
  | invoke r n=>exact hk.elim
  | builtin b=>
   cases b<;>first|exact(hk:False).elim|skip
   ·obtain⟨e,e',h1,h2,h3⟩:=hk;exact a4E (b6J _ _ h1 h2 h3 ha)
   ·obtain⟨e,h1⟩:=hk
    exact a4E (c36 _ _ h1 ha)
 | _=>exact hk.elim
end
section
open Zn (ext low kk Gr K0 Nx)
variable{S:Sit}{P:Program}
structure SLe(S S':Sit):Prop where
 F:S'.F=S.F
 T:S'.T=S.T
 D:∀b,S.D b->S'.D b
 ren:∀b,S.D b->S'.ren b=S.ren b
 W:∀b,S.W b->S'.W b
 old:∀b,S.D b->S'.W b->S.W b
 k:S'.K=S.K/\S'.Kd=S.Kd/\S'.Kk=S.Kk
theorem SLe.refl(S:Sit):SLe S S:=⟨rfl,rfl,fun _ h=>h,fun _ _=>rfl,fun _ h=>h,fun _ _ h=>h,rfl,rfl,rfl⟩
theorem SLe.trans{A B C:Sit}(h:SLe A B)(k:SLe B C):SLe A C:=
 ⟨k.F.trans h.F,k.T.trans h.T,fun b x=>k.D b (h.D b x),fun b x=>(k.ren b (h.D b x)).trans (h.ren b x),fun b x=>k.W b (h.W b x),fun b x y=>h.old b x (k.old b (h.D b x) y),k.k.1.trans h.k.1,k.k.2.1.trans h.k.2.1,k.k.2.2.trans h.k.2.2⟩
section
variable{S':Sit}(hL:SLe S S')
include hL
theorem SLe.rA{a:Addr}(h:S.D a.block):Bi.rA S' a=Bi.rA S a:=by unfold Bi.rA;rw[hL.ren _ h]
theorem VR.mono{v v':Value}(h:VR S v v'):VR S' v v':=by
 induction h with
 | bool b=>exact .bool b
 | int k n=>exact .int k n
 | string s=>exact .string s
 | pnil=>exact .pnil
 | ptr a h=>rw[<-hL.rA h];exact .ptr a (hL.D _ h)
 | snil n c=>exact .snil n c
 | slice a n c h=>rw[<-hL.rA h];exact .slice a n c (hL.D _ h)
 | func fn fn' f f' c c' h hf _ hc _ ihf ihc=>
  refine .func fn fn' f f' c c' ?_ hf ihf hc ihc
  cases h with
  | func f h=>exact .func f (hL.F▸h)
 | iface t v v' ht h ih=>exact .iface t v v' (hL.T▸ht) ih
 | nilIface=>exact .nilIface
 | agg c c' hc _ ih=>exact .agg c c' hc ih
 | tuple c c' hc _ ih=>exact .tuple c c' hc ih
theorem AR.mono{c c':Array Value}(h:AR S c c'):AR S' c c':=⟨h.size,fun i h1 h2=>(h.at_ i h1 h2).mono hL⟩
theorem a7O.mono{o o':Obj}(h:a7O S o o'):a7O S' o o':=by
 cases h with
 | cells c c' e fr fr' h hf=>exact .cells _ _ _ _ _ (h.mono hL) hf
 | number a l h=>rw[<-hL.rA h];exact .number _ _ (hL.D _ h)
theorem ZOK.mono{t:TypeId}(h:ZOK S P t):ZOK S' P t:=fun i z hi hz=>(h i z hi hz).mono hL
theorem b2z.mono{x:Operand}(h:b2z S x):b2z S' x:=by
 cases x with
 | tmp t=>trivial
 | const v=>exact VR.mono hL h
 | global g=>exact h
 | func f=>exact(hL.F▸h:S'.F f)
theorem OpB.mono{o:Op}(h:OpB S P o):OpB S' P o:=by
 cases o
 case alloc t=>exact ZOK.mono hL h
 case build t ps=>exact ZOK.mono hL h
 case buildSlice t n ps=>exact fun e he=>ZOK.mono hL (h e he)
 case makeInterface t x=>exact(show S'.T t by rw[hL.T];exact h)
 case call c=>
  obtain⟨callee,args,tys⟩:=c
  cases callee with
  | value f=>
   cases f with
   | func f=>exact(show S'.F f by rw[hL.F];exact h)
   | _=>exact h.elim
  | invoke r n=>exact h.elim
  | builtin b=>
   cases b<;>first|exact(h:False).elim|skip
   ·obtain⟨e,e',h1,h2,h3⟩:=h;exact⟨e,e',h1,h2.mono hL,h3⟩
   ·exact h
 all_goals exact h
end
def Cur(S:Sit)(w:World):Prop:=∀b,S.D b->b<w.heap.size
def Sit.up(S:Sit)(n n' m:Nat):Sit:={ren:=fun b=>if b<n then S.ren b else n'+(b - n),D:=fun b=>S.D b\/(n<=b/\b<n+m),F:=S.F,T:=S.T,W:=fun b=>S.W b\/(n<=b/\b<n+m),K:=S.K,Kd:=S.Kd,Kk:=S.Kk}
theorem c3E{w:World}(hc:Cur S w)(n' m:Nat):SLe S (S.up w.heap.size n' m):=
 ⟨rfl,rfl,fun b h=>.inl h,fun b h=>if_pos (hc b h),fun b h=>.inl h,fun b h k=>k.elim id fun k=>absurd (hc b h) (by omega),rfl,rfl,rfl⟩
theorem c3F{w w':World}(hc:Cur S w)(hW:WR S w w')(m:Nat):WR (S.up w.heap.size w'.heap.size m) w w':=by
 have im:∀b,S.D b->S.ren b<w'.heap.size:=fun b hb=>by
  obtain⟨_,_,_,h,_⟩:=hW.obj b hb (hc b hb);exact lt_of_some h
 refine⟨fun a b ha hb e=>?_,fun b hb hD=>?_,fun b hb hlt=>?_,fun b c e fr hb hn ho=>?_⟩
 ·unfold Sit.up at ha hb e;dsimp only at ha hb e;rcases ha with ha|ha<;>rcases hb with hb|hb
  ·rw[if_pos (hc a ha),if_pos (hc b hb)] at e;exact hW.inj a b ha hb e
  ·rw[if_pos (hc a ha),if_neg (by omega)] at e;have:=im a ha;omega
  ·rw[if_pos (hc b hb),if_neg (by omega)] at e;have:=im b hb;omega
  ·rw[if_neg (by omega),if_neg (by omega)] at e;omega
 ·unfold Sit.up;dsimp only;rw[if_neg (by omega)];omega
 ·rcases hb with hb|hb
  ·obtain⟨o,o',h1,h2,h3⟩:=hW.obj b hb hlt;refine⟨o,o',h1,?_,h3.mono (c3E hc _ _)⟩;show w'.heap[if b<w.heap.size then S.ren b else _]?=_;rw[if_pos hlt];exact h2
  ·omega
 ·have hb':S.D b:=by
   rcases hb with hb|hb
   ·exact hb
   ·have:=lt_of_some ho;omega
  exact hW.ro b c e fr hb' (fun h=>hn (.inl h)) ho
theorem c39{w w':World}(hP:PQB S P)(hc:Cur S w)(hW:WR S w w')(h1:P.globals.size<=w.heap.size)(h2:P.globals.size<=w'.heap.size)(m:Nat):PQB (S.up w.heap.size w'.heap.size m) P:=by
 refine⟨⟨⟨fun b hb=>?_,(c3F hc hW m).inj⟩,fun b hb=>?_⟩,hP.body⟩
 ·rcases hb with hb|hb
  ·exact hP.high b hb
  ·omega
 ·show _<=if b<w.heap.size then S.ren b else _
  rcases hb with hb|hb
  ·rw[if_pos (hc b hb)];exact hP.high' b hb
  ·rw[if_neg (by omega)];omega
theorem both{α β:Type}{R:Sit->α->β->Prop}{s:Sem α}{s':Sem β}{w w' u:World}{a:α}(hP:PQB S P)(hc:Cur S w)(hW:WR S w w')(h1:P.globals.size<=w.heap.size)(h2:P.globals.size<=w'.heap.size)(ht:w'.tape=w.tape)(hd:w'.drawn=w.drawn)
 (h:∀S',SLe S S'->PQB S' P->Im S' P (R S') s s')(hr:s.run P w=.ok a u):
 ∃S' b u' es,s'.runT P w' #[]=(.ok b u',es)/\SLe S S'/\PQB S' P/\Cur S' u/\R S' a b/\WR S' u u'/\w.heap.size<=u.heap.size/\w'.heap.size<=u'.heap.size/\u'.tape=w'.tape/\u'.drawn=u.drawn/\u.tape=w.tape/\u'.os=w'.os/\u'.output=w'.output/\
  (∀e∈es,EvOK S' u'.heap.size e)/\(∀b,b<w'.heap.size->(∀a,S.D a->S.W a->S.ren a≠b)->u'.heap[b]?=w'.heap[b]?)/\(∀b,S'.D b->S'.W b->S.W b/\S.D b\/w'.heap.size<=S'.ren b)/\(∀b,S'.D b->S.D b\/S'.W b):=by
 have hsz:=b2t hr;have hL:=c3E hc w'.heap.size (u.heap.size - w.heap.size);have hP':=c39 hP hc hW h1 h2 (u.heap.size - w.heap.size);have hW':=c3F hc hW (u.heap.size - w.heap.size);obtain⟨b,u',new,e1,e2,e3,e4,e5⟩:=(h _ hL hP').run hW' hr (fun i hi=>⟨.inr ⟨by omega,by omega⟩,.inr ⟨by omega,by omega⟩,by
  show(if w.heap.size+i<w.heap.size then _ else _)=_;rw[if_neg (by omega)];omega⟩) (fun i q _=>by rw[ht,hd]) #[]
 have hdr:=b0p hr;refine⟨_,b,u',new,by simpa using e1,hL,hP',fun b hb=>?_,e2,e3,hsz,by have:=e4.size';omega,e4.tape',by have:=e4.drawn';omega,hdr.2,e4.os',e4.output',e5,fun b hb hn=>e4.old b hb fun a ha hWa hlt e=>?_,fun b hb hWb=>?_,fun b hb=>hb.imp id .inr⟩
 ·rcases hb with hb|hb
  ·have:=hc b hb;omega
  ·omega
 ·have hDa:S.D a:=ha.elim id fun x=>absurd x.1 (by omega);have hWa':S.W a:=hWa.elim id fun x=>absurd x.1 (by omega);refine hn a hDa hWa' ?_;rw[<-e];exact(if_pos hlt).symm
 ·rcases hb with hb|hb
  ·exact .inl ⟨hL.old b hb hWb,hb⟩
  ·right;show _<=if b<w.heap.size then _ else _
   rw[if_neg (by omega)];omega
end
section
open Zn (ext low kk Gr K0 Nx a0B N8 a0d a0R xx Full)
variable{S:Sit}{P:Program}{X:Tmp->Prop}
def CodeB(S:Sit)(P:Program)(X:Tmp->Prop):Code->Prop
 | .seq a b=>CodeB S P X a/\CodeB S P X b
 | .cond c a b=>(b2z S c/\∀t,c=.tmp t->X t)/\CodeB S P X a/\CodeB S P X b
 | .block _ b=>CodeB S P X b
 | .loop b=>CodeB S P X b
 | .region _ ops _=>∀o∈ops,OpB S P o.op/\(∀x∈o.op.operands,b2z S x/\∀t,x=.tmp t->X t)/\∀t,o.dst=some t->X t
 | .skip|.label _|.exit _|.ret=>True
 | _=>False
inductive a1v(S:Sit)(P:Program)(X:Tmp->Prop):Item->Prop
 | code (c:Code) (h:CodeB S P X c):a1v S P X (.code c)
 | inBlock (id:Nat):a1v S P X (.inBlock id)
 | inLoop (c:Code) (h:CodeB S P X c):a1v S P X (.inLoop c)
 | inRegion (ops:Array Oper) (l:List Nat) (h:∀o∈ops,OpB S P o.op/\(∀x∈o.op.operands,b2z S x/\∀t,x=.tmp t->X t)/\∀t,o.dst=some t->X t):a1v S P X (.inRegion ops l)
section
variable{S':Sit}(hL:SLe S S')
include hL
theorem CodeB.mono{c:Code}(h:CodeB S P X c):CodeB S' P X c:=by
 induction c with
 | seq a b iha ihb=>exact⟨iha h.1,ihb h.2⟩
 | cond c a b iha ihb=>exact⟨⟨h.1.1.mono hL,h.1.2⟩,iha h.2.1,ihb h.2.2⟩
 | block _ b ih=>exact ih h
 | loop b ih=>exact ih h
 | region _ ops _=>exact fun o ho=>⟨(h o ho).1.mono hL,fun x hx=>⟨((h o ho).2.1 x hx).1.mono hL,((h o ho).2.1 x hx).2⟩,(h o ho).2.2⟩
 | skip=>trivial
 | label _=>trivial
 | exit _=>trivial
 | ret=>trivial
 | _=>exact(h:False).elim
theorem a1v.mono{x:Item}(h:a1v S P X x):a1v S' P X x:=by
 cases h with
 | code c h=>exact .code c (h.mono hL)
 | inBlock id=>exact .inBlock id
 | inLoop c h=>exact .inLoop c (h.mono hL)
 | inRegion ops l h=>exact .inRegion ops l fun o ho=>⟨(h o ho).1.mono hL,fun x hx=>⟨((h o ho).2.1 x hx).1.mono hL,((h o ho).2.1 x hx).2⟩,(h o ho).2.2⟩
end
def Kept(S:Sit)(X:Tmp->Prop)(l:List Frame)(fr':Frame):Prop:=(∀t,¬X t->fr'.tmps.getD t undef=S.K t)/\(l=[]->fr'.defers=S.Kd/\fr'.kind=S.Kk)
structure FrR(S:Sit)(P:Program)(X:Tmp->Prop)(l:List Frame)(fr fr':Frame):Prop where
 fn:fr'.fn=fr.fn
 size:fr'.tmps.size=fr.tmps.size
 tmps:∀t,xx l X t->VR S (fr.tmps.getD t undef) (fr'.tmps.getD t undef)
 todo:fr'.todo=fr.todo
 items:∀x∈fr.todo,a1v S P (xx l X) x
 mode:fr'.mode=fr.mode
 modes:fr.mode=.run\/fr.mode=.returning
 round:fr.roundOf=none
 round':fr'.roundOf=none
 early:fr.kind≠.early/\fr'.kind≠.early
 up:l≠[]->fr.kind=.normal/\fr'.kind=.normal/\fr.defers=[]/\fr'.defers=[]
 ld:fr.defers=[]
 kp:Kept S (xx l X) l fr'
theorem FrR.mono{S':Sit}(hL:SLe S S'){l:List Frame}{fr fr':Frame}(h:FrR S P X l fr fr'):FrR S' P X l fr fr':=
 ⟨h.fn,h.size,fun t ht=>(h.tmps t ht).mono hL,h.todo,fun x hx=>(h.items x hx).mono hL,h.mode,h.modes,h.round,h.round',h.early,h.up,h.ld,⟨fun t ht=>(h.kp.1 t ht).trans (by rw[hL.k.1]),fun e=>⟨(h.kp.2 e).1.trans hL.k.2.1.symm,(h.kp.2 e).2.trans hL.k.2.2.symm⟩⟩⟩
inductive a4U(S:Sit)(P:Program)(X:Tmp->Prop):List Frame->List Frame->Prop
 | nil:a4U S P X [] []
 | cons (x y:Frame) (l k:List Frame) (h:FrR S P X l x y) (hm:x.mode=.run) (hne:x.todo≠[]) (hl:a4U S P X l k):a4U S P X (x::l) (y::k)
theorem a4U.mono{S':Sit}(hL:SLe S S'){l k:List Frame}(h:a4U S P X l k):a4U S' P X l k:=by
 induction h with
 | nil=>exact .nil
 | cons x y l k h hm hne _ ih=>exact .cons x y l k (h.mono hL) hm hne ih
theorem a4U.kk{l k:List Frame}(h:a4U S P X l k)(κ:List Item):Zn.kk k κ = Zn.kk l κ:=by
 cases h<;>rfl
theorem a2O:VR S undef undef:=VR.tuple' AR.nil
theorem FrR.eval{l:List Frame}{fr fr':Frame}(h:FrR S P X l fr fr'){x:Operand}(hx:b2z S x)(hu:∀t,x=.tmp t->xx l X t):VR S (fr.eval x) (fr'.eval x):=by
 cases x with
 | tmp t=>exact h.tmps t (hu t rfl)
 | const v=>exact hx
 | global g=>exact hx.elim
 | func f=>exact .func _ _ _ _ _ _ (.func f hx) rfl (fun i h1=>by simp at h1) rfl (fun i h1=>by simp at h1)
theorem b37{l:List Frame}{fr fr':Frame}(h:FrR S P X l fr fr'){ops:Array Oper}(ho:∀o∈ops,∀t,o.dst=some t->xx l X t):yielded ops fr'.tmps=yielded ops fr.tmps:=by
 funext j
 unfold yielded
 cases h1:ops[j]? with
 | none=>rfl
 | some o=>
  cases h2:o.dst with
  | none=>simp[h2]
  | some t=>
   have hv:=h.tmps t (ho o (Array.mem_of_getElem? h1) t h2);rw[Array.getD_eq_getD_getElem?,Array.getD_eq_getD_getElem?] at hv;simp only[Option.bind_some,h2];by_cases hlt:t<fr.tmps.size
   ·have hlt':t<fr'.tmps.size:=by rw[h.size];exact hlt
    rw[Array.getElem?_eq_getElem hlt,Array.getElem?_eq_getElem hlt'] at hv⊢;simp only[Option.getD_some] at hv;generalize fr.tmps[t]=a at hv;generalize fr'.tmps[t]=b at hv;cases hv<;>rfl
   ·have:=h.size;have h4:fr.tmps.size<=t:=Nat.le_of_not_lt hlt;have h5:fr'.tmps.size<=t:=by rw[this];exact h4
    rw[Array.getElem?_eq_none h5,Array.getElem?_eq_none h4]
theorem FrR.finish{l:List Frame}{fr fr':Frame}(h:FrR S P X l fr fr')(hm:fr.mode=.run){v v':Value}(hv:VR S v v'):FrR S P X l (fr.finish v) (fr'.finish v'):=by
 obtain⟨fn,tmps,todo,defers,mode,kind,roundOf⟩:=fr;obtain⟨fn',tmps',todo',defers',mode',kind',roundOf'⟩:=fr';obtain⟨h1,h2,h3,h4,h5,h6,h7,h8,h9,h10,h11,h12,h13⟩:=h;dsimp only at h1 h2 h3 h4 h5 h6 h7 h8 h9 h10 h11 h12 h13;subst h4;unfold Frame.finish
 cases todo' with
 | nil=>exact⟨h1,h2,h3,rfl,h5,h6,h7,h8,h9,h10,h11,h12,h13⟩
 | cons x k=>
  have hk:∀y∈k,a1v S P (xx l X) y:=fun y hy=>h5 y (by simp[hy]);have hx:=h5 x (by simp)
  cases hx with
  | inRegion ops is ho=>
   cases is with
   | nil=>exact⟨h1,h2,h3,rfl,h5,h6,h7,h8,h9,h10,h11,h12,h13⟩
   | cons i rest=>
    dsimp only;refine⟨h1,?_,?_,rfl,?_,h6,h7,h8,h9,h10,h11,h12,⟨?_,h13.2⟩⟩
    ·dsimp only;split<;>simp[h2]
    ·dsimp only;split
     ·rename_i d hd;intro t ht;rw[Array.getD_eq_getD_getElem?,Array.getD_eq_getD_getElem?,Array.getElem?_setIfInBounds,Array.getElem?_setIfInBounds,h2];split
      ·split
       ·exact hv
       ·exact a2O
      ·exact Array.getD_eq_getD_getElem? (xs:=tmps)▸Array.getD_eq_getD_getElem? (xs:=tmps')▸h3 t ht
     ·exact h3
    ·intro y hy;rcases List.mem_cons.1 hy with rfl|hy
     ·exact .inRegion _ _ ho
     ·exact hk y hy
    ·dsimp only;split
     ·rename_i d hd;intro t ht;obtain⟨o,ho1,ho2⟩:=Option.bind_eq_some_iff.1 hd;have hne:d≠t:=fun e=>ht (e▸(ho o (Array.mem_of_getElem? ho1)).2.2 d ho2);rw[Array.getD_eq_getD_getElem?,Array.getElem?_setIfInBounds_ne hne,<-Array.getD_eq_getD_getElem?];exact h13.1 t ht
     ·exact h13.1
  | _=>exact⟨h1,h2,h3,rfl,h5,h6,h7,h8,h9,h10,h11,h12,h13⟩
structure Gre(S S':Sit)(w w':World)(es:Array Event):Prop where
 size:w.heap.size<=w'.heap.size
 tape:w'.tape=w.tape
 os:w'.os=w.os
 output:w'.output=w.output
 old:∀b,b<w.heap.size->(∀a,S.D a->S.W a->S.ren a≠b)->w'.heap[b]?=w.heap[b]?
 new:∀b,S'.D b->S'.W b->S.W b/\S.D b\/w.heap.size<=S'.ren b
 ev:∀e∈es,EvOK S' w'.heap.size e
 dw:∀b,S'.D b->S.D b\/S'.W b
def Fol(P:Program)(S:Sit)(X:Tmp->Prop)(w2:World)(s:List Item->List Frame->GStep)(fr':Frame)(l':List Frame)(w':World):Prop:=
 ∃S' fr2' l2' w2' es2,(∀κ cs,s κ cs=.go (Gr fr2' l2' κ cs) w2' es2)/\SLe S S'/\PQB S' P/\Cur S' w'/\FrR S' P X l' fr' fr2'/\a4U S' P X l' l2'/\WR S' w' w2'/\Gre S S' w2 w2' es2
theorem a3R(fr:Frame)(l:List Frame):Gr fr l [] []={frame:=fr,callers:=l,status:=.running,dying:=none}:=by
 have e1:∀l:List Frame,kk l []=[]:=fun l=>by cases l<;>rfl
 have e2:∀l:List Frame,low l [] []=l:=by
  intro l
  induction l with
  | nil=>rfl
  | cons x l ih=>unfold low;rw[e1,a0B,ih]
 unfold Gr;rw[e1,a0B,e2]
theorem b9j{fr fr2:Frame}{l l2:List Frame}{w w2:World}{fr':Frame}{l':List Frame}{w':World}{es:Array Event}(hP:PQB S P)(hc:Cur S w)(hF:FrR S P X l fr fr2)(hLo:a4U S P X l l2)(hW:WR S w w2)
 (h1:P.globals.size<=w.heap.size)(h2:P.globals.size<=w2.heap.size)(ht:w2.tape=w.tape)(hd:w2.drawn=w.drawn)
 (hcode:∀f fn c,S.F f->P.funcs[f]?=some fn->fn.body=some c->CodeB S P Full c)
 (hm:fr.mode=.run){ops:Array Oper}{is:List Nat}{k:List Item}(htd:fr.todo=.inRegion ops is::k)(hm':∀c,fr'.mode≠.panicking c){s s2:Sem Next}(him:∀S',SLe S S'->PQB S' P->Im S' P (a5x S') s s2)
 (hh:(∃a u,s.run P w=.ok a u)\/∃x u,s.run P w=.halt x u/\Zn.HaltOK x)
 (h0:stepG.apply P true fr l none s w=.go (Gr fr' l' [] []) w' es):
 Fol P S X w2 (fun κ cs=>stepG.apply P true (ext fr2 (kk l2 κ)) (low l2 κ cs) none s2 w2) fr' l' w':=by
 rw[a3R] at h0;have hk1:(fr.kind==CallKind.early)=false:=by have:=hF.early.1;cases hx:fr.kind<;>simp_all<;>rfl
 have hk2:∀κ,((ext fr2 κ).kind==CallKind.early)=false:=fun κ=>by
  show(fr2.kind==CallKind.early)=false;have:=hF.early.2;cases hx:fr2.kind<;>simp_all<;>rfl
 have hrun:∀{r:Result Next},s.run P w=r->∃es0,s.runT P w #[]=(r,es0):=fun{r}e=>⟨(s.runT P w #[]).2,by
  have:=Sem.runT_fst P s w #[];rw[e] at this;exact Prod.ext this rfl⟩
 have hne2:fr2.todo≠[]:=by rw[hF.todo,htd];simp
 rcases hh with⟨a,u,hr⟩|⟨x,u,hr,hok⟩
 ·obtain⟨es0,hr0⟩:=hrun hr;obtain⟨S',b,u2,es2,g1,g2,g3,g4,g5,g6,g7,g8,g9,g10,g11,g12,g13,g14,g15,g16,g17⟩:=both hP hc hW h1 h2 ht hd him hr;have hF':=hF.mono g2;have hLo':=hLo.mono g2;have gre:∀es3:Array Event,(∀e∈es3,e∈es2)->Gre S S' w2 u2 es3:=fun es3 hes=>⟨g8,g9,g12,g13,g15,g16,fun e he=>g14 e (hes e he),g17⟩;have hes:∀e∈seen P fr2.fn es2++#[],e∈es2:=fun e he=>by
   rw[Array.append_empty] at he;exact Go.Conc.mem_seen he
  unfold stepG.apply at h0;simp only[if_true,hk1,hr0,Bool.false_eq_true,if_false] at h0
  cases g5 with
  | value v v' hv=>
   injection h0 with e1 e2 e3;injection e1 with e4 e5;subst e4;subst e5;subst e2;refine⟨S',fr2.finish v',l2,u2,seen P fr2.fn es2++#[],fun κ cs=>?_,g2,g3,g4,hF'.finish hm hv,hLo',g6,gre _ hes⟩;unfold stepG.apply;simp only[if_true,hk2,g1,Bool.false_eq_true,if_false];rw[N8 hne2]
   rfl
  | skip=>
   injection h0 with e1 e2 e3;injection e1 with e4 e5;subst e4;subst e5;subst e2;refine⟨S',fr2.finish undef,l2,u2,seen P fr2.fn es2++#[],fun κ cs=>?_,g2,g3,g4,hF'.finish hm a2O,hLo',g6,gre _ hes⟩;unfold stepG.apply;simp only[if_true,hk2,g1,Bool.false_eq_true,if_false];rw[N8 hne2]
   rfl
  | enter f args args' hf ha=>
   obtain⟨fn,h3,h4,-⟩:=hP.body f (g2.F▸hf);have hcall:∀κ,(ext fr2 κ).todo=.inRegion ops is::(k++κ):=fun κ=>by
    unfold ext;rw[hF.todo,htd];rfl
   dsimp only[GStep.after] at h0;rw[htd] at h0;dsimp only at h0;injection h0 with e1 e2 e3;injection e1 with e4 e5;subst e4;subst e5;subst e2;refine⟨S',Frame.enter P f args' .normal,fr2::l2,u2,seen P fr2.fn es2++#[],fun κ cs=>?_,g2,g3,g4,?_,.cons fr fr2 l l2 hF' hm (by rw[htd];simp) hLo',g6,gre _ hes⟩
   ·unfold stepG.apply;simp only[if_true,hk2,g1,Bool.false_eq_true,if_false];dsimp only[GStep.after];rw[hcall];dsimp only;unfold Gr;show _=GStep.go {frame:=ext (Frame.enter P f args' .normal) [],callers:=_,status:=_,dying:=_} _ _;rw[a0B];rfl
   ·refine⟨rfl,?_,fun t _=>?_,rfl,fun x hx=>?_,rfl,.inl rfl,rfl,rfl,⟨by simp[Frame.enter],by simp[Frame.enter]⟩,fun _=>⟨rfl,rfl,rfl,rfl⟩,rfl,⟨fun t ht=>absurd trivial ht,fun e=>by cases e⟩⟩
    ·simp[Frame.enter,ha.size]
    ·simp only[Frame.enter];rw[<-ha.size];exact(ha.append (AR.replicate _ a2O)).getD _ a2O
    ·simp only[Frame.enter,List.mem_singleton] at hx;subst hx;refine .code _ ?_;rw[h3]
     cases hb:fn.body with
     | none=>rw[hb] at h4;cases h4
     | some c=>
      simp only[Option.bind_some,hb,Option.getD_some];exact(hcode f fn c (g2.F▸hf) h3 hb).mono g2
 ·obtain⟨es0,hr0⟩:=hrun hr;exfalso;unfold stepG.apply at h0;simp only[if_true,hk1,hr0,Bool.false_eq_true,if_false] at h0
  cases x with
  | panic v=>
   injection h0 with e1 e2 e3;injection e1 with e4 e5;obtain⟨c,hc',-⟩:=Zn.raise_mode fr [{v,recovered:=false}]
   exact hm' c (by rw[<-e4];exact hc')
  | stuck x=>cases h0
  | unsupported x=>cases x<;>first|exact(hok:False).elim|cases h0
  | _=>exact(hok:False).elim
end
end Go.Bi
