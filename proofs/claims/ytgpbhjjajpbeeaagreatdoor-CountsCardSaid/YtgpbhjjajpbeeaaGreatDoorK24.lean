/- A part of what the last file proves. -/
import Derived.Test.YtgpbhjjajpbeeaaGreatDoorK23
import GoSem.Dispatch
set_option linter.all false
set_option maxHeartbeats 4000000
namespace Go.Bi
section
variable{S:Sit}{P:Program}
theorem U6{α β:Type}{R:α->β->Prop}(c:Prop)[Decidable c]{s t:Sem α}{s' t':Sem β}(h:c->Im S P R s s')(k:¬c->Im S P R t t'):Im S P R (if c then s else t) (if c then s' else t'):=by
 split
 ·exact h ‹_›
 ·exact k ‹_›
theorem M4{α β β':Type}{R:β->β'->Prop}(x:Unsupported)(f:α->Sem β)(s':Sem β'):Im S P R (unsupported x >>= f) s':=Im.halt _ _
theorem a6t(op:BinOp)(k:IntKind)(x y:Int):Im S P (VR S) (Op.intArith op k x y) (Op.intArith op k x y):=by
 unfold Op.intArith;split<;>first|exact Im.pure (.int _ _)|exact o6 _ _
theorem a7J(op:BinOp)(k:IntKind)(x y:Int):Im S P (VR S) (Op.intBits op k x y) (Op.intBits op k x y):=by
 unfold Op.intBits;dsimp only;split<;>first|exact Im.pure (.int _ _)|exact o6 _ _
theorem b54(op:BinOp)(x y:Int):Im S P (VR S) (Op.intCmp op x y) (Op.intCmp op x y):=by
 unfold Op.intCmp;split<;>first|exact Im.pure (.bool _)|exact o6 _ _
theorem b55(op:BinOp)(k:IntKind)(x y:Int):Im S P (VR S) (Op.intDiv op k x y) (Op.intDiv op k x y):=by
 unfold Op.intDiv;split
 ·exact J9 _ trivial
 ·split<;>first|exact Im.pure (.int _ _)|exact o6 _ _
theorem b8s(op:BinOp)(k:IntKind)(x:Int)(j:IntKind)(y:Int):Im S P (VR S) (Op.shift op k x j y) (Op.shift op k x j y):=by
 unfold Op.shift;split
 ·exact J9 _ trivial
 ·dsimp only;split<;>first|exact Im.pure (.int _ _)|exact o6 _ _
theorem a3i(op:BinOp)(x y:ByteArray):Im S P (VR S) (Op.stringOp op x y) (Op.stringOp op x y):=by
 unfold Op.stringOp;dsimp only;split
 ·split
  ·exact o5 _ _
  ·exact Im.pure (.string _)
 all_goals first|exact Im.pure (.bool _)|exact o6 _ _
theorem b8t(op:UnOp){x x':Value}(h:VR S x x'):Im S P (VR S) (Op.unary op x) (Op.unary op x'):=by
 cases h<;>cases op<;>first|exact a6t .sub _ 0 _|exact a7J .xor _ _ _|exact Im.pure (.float _ _)|exact Im.pure (.complex _ _ _)|exact Im.pure (.bool _)|exact o5 _ _|exact o6 _ _
theorem a5H(op:BinOp)(t:TypeId)(k:IntKind)(a:Int)(k':IntKind)(b:Int):Im S P (VR S) (binOp op t (.int k a) (.int k' b)) (binOp op t (.int k a) (.int k' b)):=by
 have key:∀{s s':Sem Value},Im S P (VR S) s s'->Im S P (VR S) (if k≠k' then stuck "BinOp: operands of different kinds" else s) (if k≠k' then stuck "BinOp: operands of different kinds" else s'):=fun h=>U6 _ (fun _=>o6 _ _) fun _=>h
 cases op<;>first
  | exact key (a6t _ _ _ _)
  | exact key (b55 _ _ _ _)
  | exact key (a7J _ _ _ _)
  | exact key (b54 _ _ _)
  | (unfold binOp;exact b8s _ _ _ _ _)
theorem a1c(t:TypeId){p p':Option Addr}(hp:VR S (.pointer p) (.pointer p')){y y':Value}(hy:VR S y y'):Im S P (VR S) (Builtin.unsafeAdd_ #[] t #[.pointer p,y]) (Builtin.unsafeAdd_ #[] t #[.pointer p',y']):=by
 unfold Builtin.unsafeAdd_;dsimp only;refine Im.bind (b8n hy) ?_;rintro n _ rfl
 cases hp with
 | pnil=>
  dsimp only;split
  ·exact o5 _ _
  ·split
   ·exact M4 _ _ _
   ·exact o5 _ _
 | ptr a ha=>
  dsimp only;split
  ·refine Im.bind (a9P ha) ?_;rintro o _ rfl;split
   ·exact M4 _ _ _
   ·exact Im.pure (.ptr a ha)
  ·split
   ·exact M4 _ _ _
   ·refine Im.bind (a3h ha) ?_;rintro s _ rfl;split
    ·refine Im.bind Q5 ?_;rintro p p' ⟨hp,hp'⟩;subst hp';subst hp;rw[b3h];split
     ·rename_i off _;exact Im.pure (.ptr {a with off:=off} ha)
     ·exact o5 _ _
    ·exact o5 _ _
theorem a0o(t:TypeId){x x' y y':Value}(hx:VR S x x')(hy:VR S y y'):Im S P (VR S) (movedNumber t x y) (movedNumber t x' y'):=by
 unfold movedNumber;refine Im.bind (y7 t) ?_;rintro d _ ⟨rfl,_⟩
 cases hx with
 | ptr a ha=>
  dsimp only;refine U6 _ (fun _=>M4 _ _ _) fun _=>?_;refine Im.bind (M0 ha) ?_;rintro⟨b,l⟩ _ ⟨hb,rfl⟩;refine Im.bind (a1c t (.ptr b hb) hy) ?_;intro v v' hv
  cases hv with
  | ptr c hc=>exact b1N hc _
  | _=>exact Im.pure (by constructor<;>assumption)
 | pnil=>
  dsimp only
  exact U6 _ (fun _=>M4 _ _ _) fun _=>a1c t .pnil hy
 | _=>
  dsimp only;exact U6 _ (fun _=>M4 _ _ _) fun _=>Im.halt _ _
theorem a2Z(t:TypeId){p p':Option Addr}(hp:VR S (.pointer p) (.pointer p')){y y':Value}(hy:VR S y y'):Im S P (VR S) (movedPointer t (.pointer p) y) (movedPointer t (.pointer p') y'):=by
 unfold movedPointer
 cases hp with
 | pnil=>exact a1c t .pnil hy
 | ptr a ha=>
  refine Im.bind (a6s ha) ?_;intro o o' ho
  cases ho with
  | none=>exact a1c t (.ptr a ha) hy
  | some b l hb=>exact M4 _ _ _
theorem b56{a:Addr}(ha:S.D a.block):Im S P (fun a b=>b=a) (byteOf a) (byteOf (rA S a)):=by
 unfold byteOf;rw[c01];split
 ·exact Im.pure rfl
 ·refine Im.bind Q5 ?_;rintro p p' ⟨hp,hp'⟩;subst hp';subst hp;refine Im.bind (b52 ha) ?_;intro _ _ _;refine Im.bind (a3h ha) ?_;rintro _ s rfl;rw[b3h];split
  ·dsimp only;split
   ·exact Im.pure rfl
   ·split
    ·exact Im.pure rfl
    ·exact o6 _ _
  ·exact o6 _ _
structure PGK(S:Sit)(P:Program):Prop where
 high:∀b,S.D b->P.globals.size<=b
 inj:∀a b,S.D a->S.D b->S.ren a=S.ren b->a=b
theorem b3o(hP:PGK S P)(op:BinOp){a b a' b':Addr}(ha:S.D a.block):Im S P (VR S) (Op.addrCmp op a b) (Op.addrCmp op a' b'):=by
 unfold Op.addrCmp Op.twoPlaces;have e:(a.block != b.block||decide (a.block ≥ P.globals.size))=true:=by simp[hP.high _ ha]
 refine Im.bind (R:=fun _ _=>False) (Im.bind Q5 ?_) fun _ _ h=>h.elim;rintro p p' ⟨hp,hp'⟩;subst hp';subst hp;rw[if_pos e];exact M4 _ _ _
theorem a7K(k:IntKind){a:Addr}(ha:S.D a.block)(n:Int):Im S P (VR S) (Op.addrMod k a n) (Op.addrMod k (rA S a) n):=by
 unfold Op.addrMod;refine Im.bind (a3h ha) ?_;rintro s _ rfl;split
 ·refine Im.bind (O6 _) ?_;rintro i _ ⟨rfl,_⟩;dsimp only;refine U6 _ (fun _=>M4 _ _ _) fun _=>?_;refine Im.bind (b56 ha) ?_;rintro n _ rfl;exact Im.pure (.int _ _)
 ·exact o5 _ _
def c04:BinOp->Bool
 | .add|.lss|.gtr|.and|.or|.xor|.mul|.shl|.shr=>true
 | _=>false
theorem b8u(hP:PGK S P)(op:BinOp)(ho:c04 op=true)(t:TypeId){x x' y y':Value}(hx:VR S x x')(hy:VR S y y'):Im S P (VR S) (binOp op t x y) (binOp op t x' y'):=by
 have hx0:=hx;have hy0:=hy;have hadd:∀{a b u u':Value}{c:Prop}[Decidable c]{r r':Sem Value},Im S P (VR S) r r'->(Im S P (VR S) (movedNumber t a u) (movedNumber t b u'))->Im S P (VR S) (if c then r else movedNumber t a u) (if c then r' else movedNumber t b u'):=fun h k=>U6 _ (fun _=>h) fun _=>k
 cases hx with
 | int k a=>
  cases hy with
  | int k' b=>exact a5H _ _ _ _ _ _
  | ptr b hb=>
   cases op<;>first
    | exact absurd ho (by decide)
    | (unfold binOp;dsimp only;first
        | exact a0o t hy0 hx0
        | exact o5 _ _
        | (refine Im.bind (M0 hb) ?_;rintro p _ ⟨h1,rfl⟩;exact a7K _ h1 _))
  | _=>cases op<;>first
   | exact absurd ho (by decide)
   | (unfold binOp;dsimp only;first
       | exact a0o t hy0 hx0
       | exact o5 _ _
       | exact o6 _ _)
 | string s=>
  cases hy with
  | string u=>cases op<;>first|exact absurd ho (by decide)|(unfold binOp;dsimp only;exact a3i _ _ _)
  | _=>cases op<;>first
   | exact absurd ho (by decide)
   | (unfold binOp;dsimp only;first|exact o5 _ _|exact o6 _ _)
 | ptr a ha=>
  cases hy with
  | int k' b=>
   cases op<;>first
    | exact absurd ho (by decide)
    | (unfold binOp;dsimp only;first
        | exact o5 _ _
        | (refine Im.bind (M0 ha) ?_;rintro p _ ⟨h1,rfl⟩;exact a7K _ h1 _)
        | (refine Im.bind (y7 t) ?_
           rintro d _ ⟨rfl,_⟩
           exact hadd (a2Z t hx0 hy0) (a0o t hx0 hy0)))
  | ptr b hb=>
   cases op<;>first
    | exact absurd ho (by decide)
    | (unfold binOp;dsimp only;first
        | exact o5 _ _
        | (refine Im.bind (M0 ha) ?_;rintro p _ ⟨h1,rfl⟩
           refine Im.bind (M0 hb) ?_;rintro q _ ⟨h2,rfl⟩
           exact b3o hP _ h1))
  | _=>cases op<;>first
   | exact absurd ho (by decide)
   | (unfold binOp;dsimp only;first|exact o5 _ _|exact o6 _ _)
 | pnil=>
  cases hy with
  | int k' b=>
   cases op<;>first
    | exact absurd ho (by decide)
    | (unfold binOp;dsimp only;first
        | exact o5 _ _
        | (refine Im.bind (y7 t) ?_
           rintro d _ ⟨rfl,_⟩
           exact hadd (a2Z t hx0 hy0) (a0o t hx0 hy0)))
  | _=>cases op<;>first
   | exact absurd ho (by decide)
   | (unfold binOp;dsimp only;first|exact o5 _ _|exact o6 _ _)
 | _=>
  cases hy<;>cases op<;>first
   | exact absurd ho (by decide)
   | (unfold binOp;dsimp only;first|exact o5 _ _|exact o6 _ _)
end
section
variable{S:Sit}{P:Program}
structure PQG(S:Sit)(P:Program):Prop extends PGK S P where
 high':∀b,S.D b->P.globals.size<=S.ren b
theorem c2R(hP:PGK S P){a b:Addr}(ha:S.D a.block)(hb:S.D b.block):(rA S a==rA S b)=(a==b):=by
 rw[Bool.eq_iff_iff,beq_iff_eq,beq_iff_eq];refine⟨fun h=>?_,fun h=>by rw[h]⟩;obtain⟨x,i,s⟩:=a;obtain⟨y,j,u⟩:=b;unfold rA at h;injection h with h1 h2 h3;have:=hP.inj _ _ ha hb h1;dsimp only at this h2 h3;subst this;subst h2;subst h3;rfl
theorem c05(hP:PQG S P)(d:Nat)(t:TypeId){k:IntKind}(ht:P.underlying t=some (.int k)){x x' y y':Value}(hx:VR S x x')(hy:VR S y y'):Im S P (fun a b=>b=a) (Op.equalIn (d+1) t x y) (Op.equalIn (d+1) t x' y'):=by
 rw[Op.equalIn,Op.equalIn];refine Im.bind (y7 t) ?_;rintro _ td ⟨rfl,h⟩;rw[ht] at h;injection h with h;subst h
 cases hx with
 | int k1 a=>
  cases hy with
  | int k2 b=>exact U6 _ (fun _=>Im.pure rfl) fun _=>o6 _ _
  | ptr b hb=>
   by_cases e:a=0
   ·subst e;exact Im.pure rfl
   ·dsimp only;split<;>first|exact Im.pure rfl|(rename_i h _;cases h)|skip
    all_goals first|exact o5 _ _|exact absurd (by simp_all) e|skip
    all_goals simp_all
  | _=>first|exact o5 _ _|exact o6 _ _
 | ptr a ha=>
  cases hy with
  | int k2 b=>
   by_cases e:b=0
   ·subst e;exact Im.pure rfl
   ·dsimp only;split<;>first|exact Im.pure rfl|skip
    all_goals first|exact o5 _ _|exact absurd (by simp_all) e|skip
    all_goals simp_all
  | ptr b hb=>
   dsimp only;refine Im.bind (M0 ha) ?_;rintro⟨p,l⟩ _ ⟨hp,rfl⟩;refine Im.bind (M0 hb) ?_;rintro⟨q,l'⟩ _ ⟨hq,rfl⟩;refine Im.bind Q5 ?_;rintro p0 p0' ⟨h0,h0'⟩;rw[h0,h0'];have e1:¬(p.block==q.block&&decide (p.block<P.globals.size))=true:=by simp;intro _;exact hP.high _ hp
   have e2:¬((rA S p).block==(rA S q).block&&decide ((rA S p).block<P.globals.size))=true:=by
    have h3:decide ((rA S p).block<P.globals.size)=false:=decide_eq_false (by have h4:P.globals.size<=S.ren p.block:=hP.high' _ hp;simp only[b1K];omega);rw[h3];simp
   dsimp only;rw[if_neg e1,if_neg e2];refine Im.bind (O6 t) ?_;rintro _ i ⟨rfl,_⟩;rw[c2R hP.toPGK hp hq];split
   ·exact U6 _ (fun _=>Im.pure rfl) fun _=>o5 _ _
   ·exact o5 _ _
  | _=>first|exact o5 _ _|exact o6 _ _
 | pnil=>cases hy<;>first|exact o5 _ _|exact o6 _ _
 | _=>cases hy<;>first|exact o5 _ _|exact o6 _ _
theorem c30(hP:PQG S P)(t:TypeId){k:IntKind}(ht:P.underlying t=some (.int k)){x x' y y':Value}(hx:VR S x x')(hy:VR S y y'):Im S P (fun a b=>b=a) (Op.equal t x y) (Op.equal t x' y'):=c05 hP 9999 t ht hx hy
theorem b1O(op:BinOp)(t:TypeId){k:IntKind}(ht:P.underlying t=some (.int k))(x y:Operand){a a' b b':Value}(ha:VR S a a')(hb:VR S b b'):Im S P (fun _ _=>True) (eqGuard op t x y a b) (eqGuard op t x y a' b'):=by
 have key:∀(u:Unsupported){a a' b b':Value},Im S P (fun _ _=>True) (do if <-Op.eqGuardIn Op.maxDepth t a b then unsupported u:Sem Unit) (do if <-Op.eqGuardIn Op.maxDepth t a' b' then unsupported u:Sem Unit):=by
  intro u a a' b b';refine Im.bind (R:=fun a b=>a=false/\b=false) ?_ ?_
  ·show Im S P _ (Op.eqGuardIn (9999+1) t a b) (Op.eqGuardIn (9999+1) t a' b');rw[Op.eqGuardIn,Op.eqGuardIn];refine Im.bind (y7 t) ?_;rintro _ td ⟨rfl,h⟩;rw[ht] at h;injection h with h;subst h;exact Im.pure ⟨rfl,rfl⟩
  ·rintro _ _ ⟨rfl,rfl⟩;exact Im.pure trivial
 unfold eqGuard;refine U6 _ (fun _=>Im.pure trivial) fun _=>?_
 cases ha with
 | nilIface=>
  cases hb with
  | nilIface=>exact U6 _ (fun _=>Im.pure trivial) fun _=>key _
  | _=>exact Im.pure trivial
 | agg c c' hc hc'=>
  cases hb with
  | agg e e' he he'=>
   dsimp only;refine Im.bind Q5 ?_;rintro p0 p0' ⟨h0,h0'⟩;rw[h0,h0'];refine Im.bind Q5 ?_;rintro p1 p1' ⟨h1,h1'⟩;rw[h1,h1']
   exact U6 _ (fun _=>Im.pure trivial) fun _=>key _
  | _=>exact Im.pure trivial
 | _=>cases hb<;>exact Im.pure trivial
theorem b1P(op:BinOp)(t:TypeId)(x:Operand){a a':Value}(ha:VR S a a'):Im S P (fun _ _=>True) (eqGuard op t x (.const .nilIface) a .nilIface) (eqGuard op t x (.const .nilIface) a' .nilIface):=by
 unfold eqGuard;refine U6 _ (fun _=>Im.pure trivial) fun _=>?_
 cases ha with
 | nilIface=>exact U6 _ (fun _=>Im.pure trivial) fun h=>absurd (by simp) h
 | _=>exact Im.pure trivial
theorem b8v(t:TypeId){ms:Array (String×TypeId)}(ht:P.underlying t=some (.interface ms)){x x':Value}(hx:VR S x x'):Im S P (fun a b=>b=a) (Op.equal t x .nilIface) (Op.equal t x' .nilIface):=by
 show Im S P _ (Op.equalIn (9999+1) t x _) (Op.equalIn (9999+1) t x' _);rw[Op.equalIn,Op.equalIn];refine Im.bind (y7 t) ?_;rintro _ td ⟨rfl,h⟩;rw[ht] at h;injection h with h;subst h;cases hx<;>first|exact Im.pure rfl|exact o6 _ _
inductive b5c(P:Program)(t:TypeId):Operand->Prop
 | int (k:IntKind) (ht:P.underlying t=some (.int k)) (y:Operand):b5c P t y
 | nil (ms:Array (String×TypeId)) (ht:P.underlying t=some (.interface ms)):b5c P t (.const .nilIface)
theorem b1Q(op:BinOp)(ho:op=.eql\/op=.neq)(t:TypeId){x x' y y':Value}(hx:VR S x x')(hy:VR S y y')(h:Im S P (fun a b=>b=a) (Op.equal t x y) (Op.equal t x' y')):Im S P (VR S) (binOp op t x y) (binOp op t x' y'):=by
 have k1:Im S P (VR S) (do pure (.bool (<-Op.equal t x y)):Sem Value) (do pure (.bool (<-Op.equal t x' y')):Sem Value):=Im.bind h fun a b e=>by subst e;exact Im.pure (.bool _)
 have k2:Im S P (VR S) (do pure (.bool (!(<-Op.equal t x y))):Sem Value) (do pure (.bool (!(<-Op.equal t x' y'))):Sem Value):=Im.bind h fun a b e=>by subst e;exact Im.pure (.bool _)
 rcases ho with rfl|rfl
 ·cases hx<;>cases hy<;>first|exact a5H _ _ _ _ _ _|exact k1|exact a3i .eql _ _
 ·cases hx<;>cases hy<;>first|exact a5H _ _ _ _ _ _|exact k2|exact a3i .neq _ _
theorem b8w{β β':Type}{Q:β->β'->Prop}{l l':List Value}(hl:LR (VR S) l l'){b:β}{b':β'}(hb:Q b b'){f:Value->β->Sem (ForInStep β)}{f':Value->β'->Sem (ForInStep β')}
 (hf:∀x x' b b',VR S x x'->Q b b'->Im S P (fun r r'=>(∃c c',r=.yield c/\r'=.yield c'/\Q c c')\/∃c c',r=.done c/\r'=.done c'/\Q c c') (f x b) (f' x' b')):
 Im S P Q (forIn l b f) (forIn l' b' f'):=by
 induction hl generalizing b b' with
 | nil=>simp only[List.forIn_nil];exact Im.pure hb
 | cons hx _ ih=>
  simp only[List.forIn_cons];refine Im.bind (hf _ _ _ _ hx hb) ?_;rintro r r' (⟨c,c',rfl,rfl,h⟩|⟨c,c',rfl,rfl,h⟩)
  ·exact ih h
  ·exact Im.pure h
theorem a5I{x x':Value}(hx:VR S x x'):Im S P (VR S) (Conv.bytesToString x) (Conv.bytesToString x'):=by
 unfold Conv.bytesToString
 cases hx with
 | snil=>exact Im.pure (.string _)
 | slice a n c ha=>
  dsimp only;refine Im.bind (a2v ha _) ?_;intro cs cs' hc;refine Im.bind (R:=fun a b=>b=a) ?_ ?_
  ·rw[<-Array.forIn_toList,<-Array.forIn_toList];refine b8w (Q:=fun a b=>b=a) hc.list rfl ?_;rintro y y' s _ hy rfl
   cases hy with
   | int k m=>cases k<;>first|exact Im.pure (.inl ⟨_,_,rfl,rfl,rfl⟩)|exact o6 _ _
   | _=>exact o6 _ _
  ·rintro s _ rfl;exact Im.pure (.string _)
 | _=>exact o6 _ _
inductive c2S(P:Program)(s d:TypeId):Prop
 | int (k k':IntKind) (hs:P.underlying s=some (.int k)) (hd:P.underlying d=some (.int k'))
 | bytes (e:TypeId) (hs:P.underlying s=some (.slice e)) (he:P.underlying e=some (.int .u8)) (hd:P.underlying d=some .string)
theorem b3p{s d:TypeId}(h:c2S P s d){x x':Value}(hx:VR S x x'):Im S P (VR S) (convert s d x) (convert s d x'):=by
 unfold convert;refine Im.bind (y7 s) ?_;rintro _ ts ⟨rfl,h1⟩;refine Im.bind (y7 d) ?_;rintro _ td ⟨rfl,h2⟩
 cases h with
 | int k k' hs hd=>
  rw[hs] at h1;injection h1 with h1;subst h1;rw[hd] at h2;injection h2 with h2;subst h2
  cases hx<;>first|exact Im.pure (.int _ _)|exact o5 _ _
 | bytes e hs he hd=>
  rw[hs] at h1;injection h1 with h1;subst h1;rw[hd] at h2;injection h2 with h2;subst h2;have key:∀{x x':Value},VR S x x'->Im S P (VR S) (do match <-underlying e with|.int .u8=>Conv.bytesToString x|.int .i32=>Conv.runesToString x|_=>stuck "Convert: a slice of what to string?":Sem Value) (do match <-underlying e with|.int .u8=>Conv.bytesToString x'|.int .i32=>Conv.runesToString x'|_=>stuck "Convert: a slice of what to string?":Sem Value):=by
   intro x x' hx;refine Im.bind (y7 e) ?_;rintro _ te ⟨rfl,h3⟩;rw[he] at h3;injection h3 with h3;subst h3;exact a5I hx
  cases hx with
  | int k n=>exact Im.pure (.string _)
  | string s=>exact Im.pure (.string _)
  | _=>exact key (by constructor<;>assumption)
end
section
variable{S:Sit}{P:Program}
theorem c2T(ts:Array TypeId)(t:TypeId){e:TypeId}(ht:∀u,ts[0]?=some u->P.underlying u=some (.slice e)){args args':Array Value}(h:AR S args args'):Im S P (VR S) (Builtin.len_ ts t args) (Builtin.len_ ts t args'):=by
 unfold Builtin.len_
 cases h0:ts[0]? with
 | none=>exact o6 _ _
 | some u=>
  rcases h.get? 0 with⟨e1,e2⟩|⟨x,x',e1,e2,hx⟩
  ·rw[e1,e2];exact o6 _ _
  ·rw[e1,e2];dsimp only;refine Im.bind (y7 u) ?_;rintro _ d ⟨rfl,hd⟩;rw[ht u h0] at hd;injection hd with hd;subst hd;cases hx<;>first|exact Im.pure (.int _ _)|exact o6 _ _
theorem a4O{x x':Value}(h:VR S x x'):Im S P (fun a b=>b=a) (Builtin.lenOf x) (Builtin.lenOf x'):=by
 cases h<;>first|exact Im.pure rfl|exact o6 _ _
theorem b8x(s:ByteArray)(n:Nat):AR S ((s.extract 0 n).data.map fun b=>.int .u8 b.toNat) ((s.extract 0 n).data.map fun b=>.int .u8 b.toNat):=
 ⟨rfl,fun i h1 h2=>by simp only[Array.getElem_map];exact .int _ _⟩
theorem M7(size n:Nat){x x':Value}(h:VR S x x'):Im S P (AR S) (Builtin.firstCells size n x) (Builtin.firstCells size n x'):=by
 cases h with
 | snil=>exact Im.pure AR.nil
 | slice a l c ha=>exact a2v ha _
 | string s=>exact Im.pure (b8x s n)
 | _=>exact o6 _ _
theorem a0p{z z':Array Value}(h:AR S z z')(n:Nat):AR S (Builtin.zeroCells z n) (Builtin.zeroCells z' n):=by
 unfold Builtin.zeroCells;rw[h.size];exact h.size▸a4c h (n*z.size)
theorem a1M{α β:Type}{R:α->β->Prop}(size sLen n c:Nat){base base':Option Addr}(hb:VR S (.slice base sLen c) (.slice base' sLen c)){x x':Value}(hx:VR S x x'){f:Bool->Sem α}{f':Bool->Sem β}(hf:∀b,Hs P (f b))(him:∀b,Im S P R (f b) (f' b)):
 Im S P R (Builtin.mayShare size sLen n base x >>= f) (Builtin.mayShare size sLen n base' x' >>= f'):=by
 have key:∀{s:Sem α}{r:Nat}{k:Option (TypeId×Nat)->Sem α}{s':Sem β},s=.shape r k->Hs P s->Im S P R s s':=by
  rintro _ r k s' rfl h;exact Im.shape_hs h
 cases hb with
 | snil=>
  cases hx with
  | slice b l c hb=>exact key (r:=b.block) rfl (Hs.behind _ hf)
  | _=>exact him false
 | slice a l c ha=>exact key (r:=a.block) rfl (Hs.behind _ hf)
theorem b0G{α:Type}(b:Bool)(x:Unsupported):Hs P (if (!b)=true then do mark .noRoom;(unsupported x:Sem α) else unsupported x):=by
 cases b<;>exact(trivial:Hs P (unsupported x:Sem α))
theorem b0H{α β:Type}{R:α->β->Prop}(b:Bool)(x:Unsupported):Im S P R (if (!b)=true then do mark .noRoom;(unsupported x:Sem α) else unsupported x) (if (!b)=true then do mark .noRoom;(unsupported x:Sem β) else unsupported x):=
 U6 _ (fun _=>Im.bind (b5b trivial) fun _ _ _=>o5 _ _) fun _=>o5 _ _
theorem b57(ts:Array TypeId)(t:TypeId){e:TypeId}(ht:∀u,ts[0]?=some u->P.underlying u=some (.slice e))(hz:ZOK S P e){e':TypeId}(ht':∀u,ts[1]?=some u->P.underlying u=some (.slice e'))
 {args args':Array Value}(h:AR S args args'):Im S P (VR S) (Builtin.append_ ts t args) (Builtin.append_ ts t args'):=by
 unfold Builtin.append_
 cases h0:ts[0]? with
 | none=>exact o6 _ _
 | some u=>
  rcases h.get? 0 with⟨e1,e2⟩|⟨s,s',e1,e2,hs⟩
  ·rw[e1,e2];exact o6 _ _
  rcases h.get? 1 with⟨e3,e4⟩|⟨x,x',e3,e4,hx⟩
  ·rw[e1,e2,e3,e4];exact o6 _ _
  rw[e1,e2,e3,e4];dsimp only;refine Im.bind (y7 u) ?_;rintro _ d ⟨rfl,hd⟩;rw[ht u h0] at hd;injection hd with hd;subst hd;dsimp only;have hs0:=hs;have hz0:∀n,Im S P (AR S) (do pure (Builtin.zeroCells (<-zeroValue e).cells n):Sem (Array Value)) (do pure (Builtin.zeroCells (<-zeroValue e).cells n)):=fun n=>Im.bind (O7 e hz) fun z z' hz=>Im.pure (a0p hz.cells n);have hpan:∀{α β α':Type}{R:α->β->Prop}(er:RuntimeError)(he:eOK er)(g:α'->Sem α)(g':α'->Sem β),Im S P R (runtimePanic er >>= g) (runtimePanic er >>= g'):=fun er he g g'=>Im.bind (R:=fun _ _=>False) (J9 er he) fun _ _ h=>h.elim
  cases hs with
  | snil l c=>
   cases h1:ts[1]? with
   | none=>
    dsimp only;refine Im.bind (L6 _) ?_;rintro size _ rfl;simp only[Bool.false_eq_true,if_false,Bool.not_false,if_true,pure_bind,false_or]
    repeat' first
     | with_reducible exact Im.pure (.snil _ _)
     | with_reducible exact Im.pure (.slice _ _ _ (by assumption))
     | (with_reducible refine Im.bind (O6 _) ?_;rintro _ _ ⟨rfl,_⟩)
     | (with_reducible refine Im.bind (a4O hx) ?_;rintro _ _ rfl)
     | (with_reducible refine Im.bind (a2a _) ?_;rintro _ _ rfl)
     | (with_reducible refine Im.bind (a2u _) ?_;intro _ _ _)
     | (with_reducible refine Im.bind (M7 _ _ hs0) ?_;intro old old' hold)
     | (with_reducible refine Im.bind (M7 _ _ hx) ?_;intro new new' hnew)
     | (with_reducible refine Im.bind (O7 e hz) ?_;intro z z' hzz)
     | (rw[<-a1t];refine Im.bind (Y8 (by rw[add_block];assumption) _ _ _ (AR.list (by assumption))) ?_;intro _ _ _)
     | (with_reducible refine Im.bind (a1m _ ((AR.append (by assumption) (by assumption)).append (a0p (VR.cells (by assumption)) _))) ?_;rintro _ _ ⟨_,rfl⟩)
     | (refine hpan _ ?_ _ _;trivial)
     | exact Im.bind (R:=fun _ _=>False) (a1M _ _ _ _ hs0 hx (fun b=>b0G b _) (fun b=>b0H b _)) fun _ _ h=>h.elim
     | with_reducible refine U6 _ (fun _=>?_) fun _=>?_
   | some u1=>
    dsimp only;refine Im.bind (L6 _) ?_;rintro size _ rfl;refine Im.bind (y7 u1) ?_;rintro _ d ⟨rfl,hd⟩;rw[ht' u1 h1] at hd;injection hd with hd;subst hd;simp only[Bool.false_eq_true,if_false,Bool.not_false,if_true,pure_bind,false_or]
    repeat' first
     | with_reducible exact Im.pure (.snil _ _)
     | with_reducible exact Im.pure (.slice _ _ _ (by assumption))
     | (with_reducible refine Im.bind (O6 _) ?_;rintro _ _ ⟨rfl,_⟩)
     | (with_reducible refine Im.bind (a4O hx) ?_;rintro _ _ rfl)
     | (with_reducible refine Im.bind (a2a _) ?_;rintro _ _ rfl)
     | (with_reducible refine Im.bind (a2u _) ?_;intro _ _ _)
     | (with_reducible refine Im.bind (M7 _ _ hs0) ?_;intro old old' hold)
     | (with_reducible refine Im.bind (M7 _ _ hx) ?_;intro new new' hnew)
     | (with_reducible refine Im.bind (O7 e hz) ?_;intro z z' hzz)
     | (rw[<-a1t];refine Im.bind (Y8 (by rw[add_block];assumption) _ _ _ (AR.list (by assumption))) ?_;intro _ _ _)
     | (with_reducible refine Im.bind (a1m _ ((AR.append (by assumption) (by assumption)).append (a0p (VR.cells (by assumption)) _))) ?_;rintro _ _ ⟨_,rfl⟩)
     | (refine hpan _ ?_ _ _;trivial)
     | exact Im.bind (R:=fun _ _=>False) (a1M _ _ _ _ hs0 hx (fun b=>b0G b _) (fun b=>b0H b _)) fun _ _ h=>h.elim
     | with_reducible refine U6 _ (fun _=>?_) fun _=>?_
  | slice a l c ha=>
   cases h1:ts[1]? with
   | none=>
    dsimp only;refine Im.bind (L6 _) ?_;rintro size _ rfl;simp only[Bool.false_eq_true,if_false,Bool.not_false,if_true,pure_bind,false_or]
    repeat' first
     | with_reducible exact Im.pure (.snil _ _)
     | with_reducible exact Im.pure (.slice _ _ _ (by assumption))
     | (with_reducible refine Im.bind (O6 _) ?_;rintro _ _ ⟨rfl,_⟩)
     | (with_reducible refine Im.bind (a4O hx) ?_;rintro _ _ rfl)
     | (with_reducible refine Im.bind (a2a _) ?_;rintro _ _ rfl)
     | (with_reducible refine Im.bind (a2u _) ?_;intro _ _ _)
     | (with_reducible refine Im.bind (M7 _ _ hs0) ?_;intro old old' hold)
     | (with_reducible refine Im.bind (M7 _ _ hx) ?_;intro new new' hnew)
     | (with_reducible refine Im.bind (O7 e hz) ?_;intro z z' hzz)
     | (rw[<-a1t];refine Im.bind (Y8 (by rw[add_block];assumption) _ _ _ (AR.list (by assumption))) ?_;intro _ _ _)
     | (with_reducible refine Im.bind (a1m _ ((AR.append (by assumption) (by assumption)).append (a0p (VR.cells (by assumption)) _))) ?_;rintro _ _ ⟨_,rfl⟩)
     | (refine hpan _ ?_ _ _;trivial)
     | exact Im.bind (R:=fun _ _=>False) (a1M _ _ _ _ hs0 hx (fun b=>b0G b _) (fun b=>b0H b _)) fun _ _ h=>h.elim
     | with_reducible refine U6 _ (fun _=>?_) fun _=>?_
   | some u1=>
    dsimp only;refine Im.bind (L6 _) ?_;rintro size _ rfl;refine Im.bind (y7 u1) ?_;rintro _ d ⟨rfl,hd⟩;rw[ht' u1 h1] at hd;injection hd with hd;subst hd;simp only[Bool.false_eq_true,if_false,Bool.not_false,if_true,pure_bind,false_or]
    repeat' first
     | with_reducible exact Im.pure (.snil _ _)
     | with_reducible exact Im.pure (.slice _ _ _ (by assumption))
     | (with_reducible refine Im.bind (O6 _) ?_;rintro _ _ ⟨rfl,_⟩)
     | (with_reducible refine Im.bind (a4O hx) ?_;rintro _ _ rfl)
     | (with_reducible refine Im.bind (a2a _) ?_;rintro _ _ rfl)
     | (with_reducible refine Im.bind (a2u _) ?_;intro _ _ _)
     | (with_reducible refine Im.bind (M7 _ _ hs0) ?_;intro old old' hold)
     | (with_reducible refine Im.bind (M7 _ _ hx) ?_;intro new new' hnew)
     | (with_reducible refine Im.bind (O7 e hz) ?_;intro z z' hzz)
     | (rw[<-a1t];refine Im.bind (Y8 (by rw[add_block];assumption) _ _ _ (AR.list (by assumption))) ?_;intro _ _ _)
     | (with_reducible refine Im.bind (a1m _ ((AR.append (by assumption) (by assumption)).append (a0p (VR.cells (by assumption)) _))) ?_;rintro _ _ ⟨_,rfl⟩)
     | (refine hpan _ ?_ _ _;trivial)
     | exact Im.bind (R:=fun _ _=>False) (a1M _ _ _ _ hs0 hx (fun b=>b0G b _) (fun b=>b0H b _)) fun _ _ h=>h.elim
     | with_reducible refine U6 _ (fun _=>?_) fun _=>?_
  | _=>exact o6 _ _
end
section
variable{S:Sit}{P:Program}
def b1R(S:Sit):Operand->Prop
 | .tmp _=>True
 | .const v=>VR S v v
 | .global _=>False
 | .func f=>S.F f
def b8y(S:Sit)(P:Program)(c:Call):Prop:=
 match c.callee with
 | .value (.func f)=>S.F f
 | .builtin .len=>∃e,∀u,c.argTypes[0]?=some u->P.underlying u=some (.slice e)
 | .builtin .append=>∃e e',(∀u,c.argTypes[0]?=some u->P.underlying u=some (.slice e))/\ZOK S P e/\∀u,c.argTypes[1]?=some u->P.underlying u=some (.slice e')
 | _=>False
def OpB(S:Sit)(P:Program):Op->Prop
 | .move _|.assign _|.pick .. | .load .. | .store .. | .nilCheck _|.extract .. | .indexAddr .. | .slice .. | .unOp ..=>True
 | .alloc t=>ZOK S P t
 | .build t _=>ZOK S P t
 | .buildSlice t _ _=>∀e,P.underlying t=some (.slice e)->ZOK S P e
 | .binOp op t _ y _=>c04 op=true\/((op=.eql\/op=.neq)/\b5c P t y)
 | .convert s d _=>c2S P s d
 | .makeInterface t _=>S.T t
 | .fieldAddr s _ f=>∀fs g i,P.underlying s=some (.struct fs)->fs[f]?=some g->P.info? g.type=some i->i.size≠0
 | .call c=>b8y S P c
 | _=>False
inductive a4P(S:Sit):Next->Next->Prop
 | value (v v':Value) (h:VR S v v'):a4P S (.value v) (.value v')
 | skip:a4P S .skip .skip
 | enter (f:FuncId) (args args':Array Value) (hf:S.F f) (h:AR S args args'):a4P S (.enter f args) (.enter f args')
theorem a3Z{s s':Sem Value}(h:Im S P (VR S) s s'):Im S P (a4P S) (do pure (.value (<-s))) (do pure (.value (<-s'))):=Im.bind h fun _ _ hv=>Im.pure (.value _ _ hv)
theorem c4S{s s':Sem Unit}(h:Im S P (fun _ _=>True) s s'):Im S P (a4P S) (do s;pure .skip) (do s';pure .skip):=Im.bind h fun _ _ _=>Im.pure .skip
structure PQB(S:Sit)(P:Program):Prop extends PQG S P where
 body:∀f,S.F f->∃fn,P.funcs[f]?=some fn/\fn.body.isNone=false/\(fn.name== "runtime.NumGoroutine")=false
theorem PQB.pok(h:PQB S P):POK S P:=⟨h.inj⟩
theorem b1S(hP:PQB S P){f:FuncId}(hf:S.F f){args args':Array Value}(h:AR S args args'):Im S P (a4P S) (callFunc f args) (callFunc f args'):=by
 obtain⟨fn,h1,h2,h3⟩:=hP.body f hf;unfold callFunc;refine Im.bind Q5 ?_;rintro p p' ⟨h0,h0'⟩;rw[h0,h0',h1];dsimp only;rw[h3,h2];exact Im.pure (.enter f _ _ hf h)
theorem c2U{l:Array Operand}{ρ ρ':Operand->Value}(h:∀x∈l,VR S (ρ x) (ρ' x)):AR S (l.map ρ) (l.map ρ'):=
 ⟨by simp,fun i h1 h2=>by simp only[Array.getElem_map];exact h _ (Array.getElem_mem _)⟩
theorem b3q{l:Option Operand}{ρ ρ':Operand->Value}(h:∀x,l=some x->VR S (ρ x) (ρ' x)):OR S (l.map ρ) (l.map ρ'):=by
 cases l with
 | none=>exact .none
 | some x=>exact .some (h x rfl)
theorem b1T{ps:Array (Nat×Operand)}{ρ ρ':Operand->Value}(h:∀p∈ps,VR S (ρ p.2) (ρ' p.2)):LR (PR (S:=S)) (ps.map fun(i,x)=>(i,ρ x)).toList (ps.map fun(i,x)=>(i,ρ' x)).toList:=by
 obtain⟨l⟩:=ps;simp only[List.map_toArray]
 induction l with
 | nil=>exact .nil
 | cons p l ih=>
  exact .cons ⟨rfl,h p (by simp)⟩ (ih fun q hq=>h q (by simp at hq⊢;exact .inr hq))
theorem b58(hP:PQB S P){ρ ρ':Operand->Value}{o:Oper}(hk:OpB S P o.op)(hρ:∀x∈o.op.operands,VR S (ρ x) (ρ' x))(hc:∀v,ρ (.const v)=v/\ρ' (.const v)=v)(hfn:∀f,ρ (.func f)=.func (.func f) #[] #[]/\ρ' (.func f)=.func (.func f) #[] #[]):
 Im S P (a4P S) (execOp ρ o) (execOp ρ' o):=by
 obtain⟨dst,op,type,pos,after,guard⟩:=o;dsimp only at hk hρ;have hv:∀x,x∈op.operands->VR S (ρ x) (ρ' x):=hρ;unfold execOp
 cases op with
 | move x=>exact Im.pure (.value _ _ (hv x (by simp[Op.operands])))
 | assign x=>exact Im.pure (.value _ _ (hv x (by simp[Op.operands])))
 | pick c a b=>
  refine Im.bind (b51 (hv c (by simp[Op.operands]))) ?_;rintro t _ rfl;refine Im.pure (.value _ _ ?_);split
  ·exact hv a (by simp[Op.operands])
  ·exact hv b (by simp[Op.operands])
 | alloc e=>exact a3Z (b8o _ hk)
 | build t ps=>
  refine a3Z (b8q _ hk (b1T fun p hp=>hv p.2 ?_))
  simp[Op.operands];exact⟨p.1,by simpa using hp⟩
 | buildSlice t l ps=>
  refine a3Z (a8W _ hk _ (b1T fun p hp=>hv p.2 ?_))
  simp[Op.operands];exact⟨p.1,by simpa using hp⟩
 | load t a=>exact a3Z (b53 _ (hv a (by simp[Op.operands])))
 | store t a x=>exact c4S (b3j _ (hv a (by simp[Op.operands])) (hv x (by simp[Op.operands])))
 | nilCheck x=>
  have h:=hv x (by simp[Op.operands]);dsimp only;generalize ρ x=v at h;generalize ρ' x=v' at h;have h0:=h
  cases h with
  | pnil=>exact J9 _ trivial
  | nilIface=>exact J9 _ trivial
  | func fn fn' f f' c c' hf=>cases hf;exact Im.pure (.value _ _ h0)
  | _=>exact Im.pure (.value _ _ h0)
 | binOp op t x y u=>
  have hx:=hv x (by simp[Op.operands]);have hy:=hv y (by simp[Op.operands]);rcases hk with hk|⟨hk,hcmp⟩
  ·refine a3Z (Im.bind (R:=fun _ _=>True) ?_ fun _ _ _=>b8u hP.toPGK _ hk _ hx hy);cases op<;>first|exact absurd hk (by decide)|exact Im.pure trivial
  ·cases hcmp with
   | int k ht=>exact a3Z (Im.bind (b1O _ _ ht _ _ hx hy) fun _ _ _=>b1Q _ hk _ hx hy (c30 hP.toPQG _ ht hx hy))
   | nil ms ht=>
    dsimp only;rw[(hc .nilIface).1,(hc .nilIface).2] at hy⊢
    exact a3Z (Im.bind (b1P _ _ _ hx) fun _ _ _=>b1Q _ hk _ hx hy (b8v _ ht hx))
 | unOp op t x=>exact a3Z (b8t _ (hv x (by simp[Op.operands])))
 | convert s d x=>exact a3Z (b3p hk (hv x (by simp[Op.operands])))
 | makeInterface t x=>exact a3Z (a5G _ hk (hv x (by simp[Op.operands])))
 | slice t x l h m=>exact a3Z (b3m hP.pok _ (hv x (by simp[Op.operands])) (b3q fun y e=>hv y (by simp[Op.operands,e])) (b3q fun y e=>hv y (by simp[Op.operands,e])) (b3q fun y e=>hv y (by simp[Op.operands,e])))
 | fieldAddr s x f=>exact a3Z (b3k _ _ hk (hv x (by simp[Op.operands])))
 | indexAddr t x i=>exact a3Z (b3l hP.pok _ (hv x (by simp[Op.operands])) (hv i (by simp[Op.operands])))
 | extract x i=>exact a3Z (b3n _ (hv x (by simp[Op.operands])))
 | call c=>
  obtain⟨callee,args,tys⟩:=c;have ha:AR S (args.map ρ) (args.map ρ'):=c2U fun x hx=>hv x (by simp[Op.operands,Call.operands,hx])
  cases callee with
  | value f=>
   cases f with
   | func f=>
    unfold resolve;dsimp only;rw[(hfn f).1,(hfn f).2];show Im S P (a4P S) (callFunc f ((#[]++args.map ρ)++#[])) (callFunc f ((#[]++args.map ρ')++#[]));simp only[Array.empty_append,Array.append_empty]
    exact b1S hP hk ha
   | _=>exact hk.elim
  | invoke r n=>exact hk.elim
  | builtin b=>
   cases b<;>first|exact(hk:False).elim|skip
   ·obtain⟨e,e',h1,h2,h3⟩:=hk;exact a3Z (b57 _ _ h1 h2 h3 ha)
   ·obtain⟨e,h1⟩:=hk
    exact a3Z (c2T _ _ h1 ha)
 | _=>exact hk.elim
end
section
open Zn (ext low kk Gr K0 Nx)
variable{S:Sit}{P:Program}
structure SLe(S S':Sit):Prop where
 F:S'.F=S.F
 T:S'.T=S.T
 D:∀b,S.D b->S'.D b
 ren:∀b,S.D b->S'.ren b=S.ren b
 W:∀b,S.W b->S'.W b
 old:∀b,S.D b->S'.W b->S.W b
 k:S'.K=S.K/\S'.Kd=S.Kd/\S'.Kk=S.Kk
theorem SLe.refl(S:Sit):SLe S S:=⟨rfl,rfl,fun _ h=>h,fun _ _=>rfl,fun _ h=>h,fun _ _ h=>h,rfl,rfl,rfl⟩
theorem SLe.trans{A B C:Sit}(h:SLe A B)(k:SLe B C):SLe A C:=
 ⟨k.F.trans h.F,k.T.trans h.T,fun b x=>k.D b (h.D b x),fun b x=>(k.ren b (h.D b x)).trans (h.ren b x),fun b x=>k.W b (h.W b x),fun b x y=>h.old b x (k.old b (h.D b x) y),k.k.1.trans h.k.1,k.k.2.1.trans h.k.2.1,k.k.2.2.trans h.k.2.2⟩
section
variable{S':Sit}(hL:SLe S S')
include hL
theorem SLe.rA{a:Addr}(h:S.D a.block):Bi.rA S' a=Bi.rA S a:=by unfold Bi.rA;rw[hL.ren _ h]
theorem VR.mono{v v':Value}(h:VR S v v'):VR S' v v':=by
 induction h with
 | bool b=>exact .bool b
 | int k n=>exact .int k n
 | string s=>exact .string s
 | pnil=>exact .pnil
 | ptr a h=>rw[<-hL.rA h];exact .ptr a (hL.D _ h)
 | snil n c=>exact .snil n c
 | slice a n c h=>rw[<-hL.rA h];exact .slice a n c (hL.D _ h)
 | func fn fn' f f' c c' h hf _ hc _ ihf ihc=>
  refine .func fn fn' f f' c c' ?_ hf ihf hc ihc
  cases h with
  | func f h=>exact .func f (hL.F▸h)
 | iface t v v' ht h ih=>exact .iface t v v' (hL.T▸ht) ih
 | nilIface=>exact .nilIface
 | agg c c' hc _ ih=>exact .agg c c' hc ih
 | tuple c c' hc _ ih=>exact .tuple c c' hc ih
theorem AR.mono{c c':Array Value}(h:AR S c c'):AR S' c c':=⟨h.size,fun i h1 h2=>(h.at_ i h1 h2).mono hL⟩
theorem a7d.mono{o o':Obj}(h:a7d S o o'):a7d S' o o':=by
 cases h with
 | cells c c' e fr fr' h hf=>exact .cells _ _ _ _ _ (h.mono hL) hf
 | number a l h=>rw[<-hL.rA h];exact .number _ _ (hL.D _ h)
theorem ZOK.mono{t:TypeId}(h:ZOK S P t):ZOK S' P t:=fun i z hi hz=>(h i z hi hz).mono hL
theorem b1R.mono{x:Operand}(h:b1R S x):b1R S' x:=by
 cases x with
 | tmp t=>trivial
 | const v=>exact VR.mono hL h
 | global g=>exact h
 | func f=>exact(hL.F▸h:S'.F f)
theorem OpB.mono{o:Op}(h:OpB S P o):OpB S' P o:=by
 cases o
 case alloc t=>exact ZOK.mono hL h
 case build t ps=>exact ZOK.mono hL h
 case buildSlice t n ps=>exact fun e he=>ZOK.mono hL (h e he)
 case makeInterface t x=>exact(show S'.T t by rw[hL.T];exact h)
 case call c=>
  obtain⟨callee,args,tys⟩:=c
  cases callee with
  | value f=>
   cases f with
   | func f=>exact(show S'.F f by rw[hL.F];exact h)
   | _=>exact h.elim
  | invoke r n=>exact h.elim
  | builtin b=>
   cases b<;>first|exact(h:False).elim|skip
   ·obtain⟨e,e',h1,h2,h3⟩:=h;exact⟨e,e',h1,h2.mono hL,h3⟩
   ·exact h
 all_goals exact h
end
def Cur(S:Sit)(w:World):Prop:=∀b,S.D b->b<w.heap.size
def Sit.up(S:Sit)(n n' m:Nat):Sit:={ren:=fun b=>if b<n then S.ren b else n'+(b - n),D:=fun b=>S.D b\/(n<=b/\b<n+m),F:=S.F,T:=S.T,W:=fun b=>S.W b\/(n<=b/\b<n+m),K:=S.K,Kd:=S.Kd,Kk:=S.Kk}
theorem c2u{w:World}(hc:Cur S w)(n' m:Nat):SLe S (S.up w.heap.size n' m):=
 ⟨rfl,rfl,fun b h=>.inl h,fun b h=>if_pos (hc b h),fun b h=>.inl h,fun b h k=>k.elim id fun k=>absurd (hc b h) (by omega),rfl,rfl,rfl⟩
theorem c2v{w w':World}(hc:Cur S w)(hW:WR S w w')(m:Nat):WR (S.up w.heap.size w'.heap.size m) w w':=by
 have im:∀b,S.D b->S.ren b<w'.heap.size:=fun b hb=>by
  obtain⟨_,_,_,h,_⟩:=hW.obj b hb (hc b hb);exact lt_of_some h
 refine⟨fun a b ha hb e=>?_,fun b hb hD=>?_,fun b hb hlt=>?_,fun b c e fr hb hn ho=>?_⟩
 ·unfold Sit.up at ha hb e;dsimp only at ha hb e;rcases ha with ha|ha<;>rcases hb with hb|hb
  ·rw[if_pos (hc a ha),if_pos (hc b hb)] at e;exact hW.inj a b ha hb e
  ·rw[if_pos (hc a ha),if_neg (by omega)] at e;have:=im a ha;omega
  ·rw[if_pos (hc b hb),if_neg (by omega)] at e;have:=im b hb;omega
  ·rw[if_neg (by omega),if_neg (by omega)] at e;omega
 ·unfold Sit.up;dsimp only;rw[if_neg (by omega)];omega
 ·rcases hb with hb|hb
  ·obtain⟨o,o',h1,h2,h3⟩:=hW.obj b hb hlt;refine⟨o,o',h1,?_,h3.mono (c2u hc _ _)⟩;show w'.heap[if b<w.heap.size then S.ren b else _]?=_;rw[if_pos hlt];exact h2
  ·omega
 ·have hb':S.D b:=by
   rcases hb with hb|hb
   ·exact hb
   ·have:=lt_of_some ho;omega
  exact hW.ro b c e fr hb' (fun h=>hn (.inl h)) ho
theorem c2V{w w':World}(hP:PQB S P)(hc:Cur S w)(hW:WR S w w')(h1:P.globals.size<=w.heap.size)(h2:P.globals.size<=w'.heap.size)(m:Nat):PQB (S.up w.heap.size w'.heap.size m) P:=by
 refine⟨⟨⟨fun b hb=>?_,(c2v hc hW m).inj⟩,fun b hb=>?_⟩,hP.body⟩
 ·rcases hb with hb|hb
  ·exact hP.high b hb
  ·omega
 ·show _<=if b<w.heap.size then S.ren b else _
  rcases hb with hb|hb
  ·rw[if_pos (hc b hb)];exact hP.high' b hb
  ·rw[if_neg (by omega)];omega
theorem both{α β:Type}{R:Sit->α->β->Prop}{s:Sem α}{s':Sem β}{w w' u:World}{a:α}(hP:PQB S P)(hc:Cur S w)(hW:WR S w w')(h1:P.globals.size<=w.heap.size)(h2:P.globals.size<=w'.heap.size)(ht:w'.tape=w.tape)(hd:w'.drawn=w.drawn)
 (h:∀S',SLe S S'->PQB S' P->Im S' P (R S') s s')(hr:s.run P w=.ok a u):
 ∃S' b u' es,s'.runT P w' #[]=(.ok b u',es)/\SLe S S'/\PQB S' P/\Cur S' u/\R S' a b/\WR S' u u'/\w.heap.size<=u.heap.size/\w'.heap.size<=u'.heap.size/\u'.tape=w'.tape/\u'.drawn=u.drawn/\u.tape=w.tape/\u'.os=w'.os/\u'.output=w'.output/\
  (∀e∈es,EvOK S' u'.heap.size e)/\(∀b,b<w'.heap.size->(∀a,S.D a->S.W a->S.ren a≠b)->u'.heap[b]?=w'.heap[b]?)/\(∀b,S'.D b->S'.W b->S.W b/\S.D b\/w'.heap.size<=S'.ren b)/\(∀b,S'.D b->S.D b\/S'.W b):=by
 have hsz:=b1L hr;have hL:=c2u hc w'.heap.size (u.heap.size - w.heap.size);have hP':=c2V hP hc hW h1 h2 (u.heap.size - w.heap.size);have hW':=c2v hc hW (u.heap.size - w.heap.size);obtain⟨b,u',new,e1,e2,e3,e4,e5⟩:=(h _ hL hP').run hW' hr (fun i hi=>⟨.inr ⟨by omega,by omega⟩,.inr ⟨by omega,by omega⟩,by
  show(if w.heap.size+i<w.heap.size then _ else _)=_;rw[if_neg (by omega)];omega⟩) (fun i q _=>by rw[ht,hd]) #[]
 have hdr:=a9K hr;refine⟨_,b,u',new,by simpa using e1,hL,hP',fun b hb=>?_,e2,e3,hsz,by have:=e4.size';omega,e4.tape',by have:=e4.drawn';omega,hdr.2,e4.os',e4.output',e5,fun b hb hn=>e4.old b hb fun a ha hWa hlt e=>?_,fun b hb hWb=>?_,fun b hb=>hb.imp id .inr⟩
 ·rcases hb with hb|hb
  ·have:=hc b hb;omega
  ·omega
 ·have hDa:S.D a:=ha.elim id fun x=>absurd x.1 (by omega);have hWa':S.W a:=hWa.elim id fun x=>absurd x.1 (by omega);refine hn a hDa hWa' ?_;rw[<-e];exact(if_pos hlt).symm
 ·rcases hb with hb|hb
  ·exact .inl ⟨hL.old b hb hWb,hb⟩
  ·right;show _<=if b<w.heap.size then _ else _
   rw[if_neg (by omega)];omega
end
end Go.Bi
