/- A part of what the last file proves. -/
import Derived.Test.YtgpbhjjajpbeeaaGreatDoorR03
import Derived.Lib.SliceRun
set_option linter.all false
set_option maxRecDepth 100000
set_option maxHeartbeats 1600000
namespace Go.Proofs.YtgpbhjjajpbeeaaGreatDoor
section
open Go.RowKit Go.Lib Go.Maps Dk
def a1b(room:Int):D:=⟨[],[],[],room,0,0,[],fun _=>⟨[],0⟩⟩
theorem b6k(room:Int):(a1b room).Wf:=⟨by simp[a1b],by simp[a1b],by simp[a1b],by simp[a1b],by simp[a1b]⟩
theorem b2n(room:Int)(w:World)(hr:-4611686018427387904<=room/\room<=4611686018427387904):
 Calls Tryz.prog 46 #[.int .i64 room] w fun e w'=>∃a F,e=.returned (y8 a)/\A8 w' F a (a1b room)/\Ext w w'/\(∀b,F b->w.heap.size<=b):=by
 have hmm:=@run_makeMap Tryz.prog;go_enter Tryz.func46,Tryz.ntmps46
 go_wp2;go_ret;have h1:a3B (w.alloc (.map #[] 0)) w.heap.size []:=MapOf.made w;have h2:a3B ((w.alloc (.map #[] 0)).alloc (.map #[] 0)) (w.heap.size+1) []:=by
  have:=MapOf.made (α:=Nm) (β:=Nat) (P:=Tryz.prog) (k:=9) (kf:=strV) (vf:=y8) (w.alloc (.map #[] 0));simpa using this
 have hE:Ext w (((w.alloc (.map #[] 0)).alloc (.map #[] 0)).alloc (.cells #[.map (some w.heap.size),.map (some (w.heap.size+1)),.slice none 0 0,.int .i64 room,.int .i64 0,.int .i64 0] 174)):=(((Ext.refl w).new _).new _).new _;refine⟨w.heap.size+2,fun b=>w.heap.size<=b/\b<w.heap.size+3,rfl,⟨w.heap.size,w.heap.size+1,.slice none 0 0,[],fun _=>.slice none 0 0,?_⟩,hE,fun b hb=>hb.1⟩;exact{
  box:=o7.new _ _ (by simp)
  now:=(h1.ext ((Ext.refl _).new _)).ext ((Ext.refl _).new _)
  safe:=h2.ext ((Ext.refl _).new _)
  ne:=by omega
  rows:=⟨rfl,by simp⟩
  outer:=⟨rfl,Or.inl ⟨rfl,rfl⟩⟩
  outf:=fun g c e fr h=>by cases h
  flat:=by simp[a1b]
  file:=by simp[a1b]
  apart:=by simp[a1b]
  fa:=by omega
  fm:=⟨by omega,by omega⟩
  fg:=by simp
  fo:=by simp[Value.ownBlock]
  fx:=by simp[a1b]
  low:=fun b hb=>by simp;omega
  wf:=b6k room
  num:=⟨by simp[a1b],by simp[a1b],hr.1,hr.2⟩}
def a7M(F:Nat->Prop)(a:Nat)(d:D)(w:World)(e:Ending)(w':World):Prop:=e=.returned (.bool d.fails.1)/\A8 w' F a d.fails.2/\Off a w w'
theorem a6e(F:Nat->Prop)(a:Nat)(d:D)(w:World)(h:A8 w F a d):Calls Tryz.prog 93 #[y8 a] w (a7M F a d w):=by
 obtain⟨m1,m2,mv,gs,dv,h⟩:=h;have hb:=h.box;have c4:=hb.cell 4;have c5:=hb.cell 5;have f4:=hb.free 4;have f5:=hb.free 5;have hn:=h.num;have H:=Lib.hid h;clear h;have HB:=Lib.hid hb;clear hb;unfold y8;by_cases hw:0<d.wait
 ·have hs:IntKind.i64.wrap ((d.wait:Int) - 1)=((d.wait - 1:Nat):Int):=by rw[IntWalk.i64_in _ (by omega)];omega
  go_enter Tryz.func93,Tryz.ntmps93
  go_wp2;go_ret;unfold a7M D.fails;rw[if_pos hw];refine⟨rfl,⟨m1,m2,mv,gs,dv,?_⟩,(Off.refl a w).setCell 4 _⟩;exact H.out.box' ((Off.refl a w).setCell 4 _) (by first|exact HB.out.set 4 _|(have:=HB.out.set 4 (.int .i64 ((d.wait - 1:Nat):Int));simpa using this)) rfl rfl rfl rfl rfl (by dsimp only;omega)
 ·by_cases hb:0<d.bad
  ·have hs:IntKind.i64.wrap ((d.bad:Int) - 1)=((d.bad - 1:Nat):Int):=by rw[IntWalk.i64_in _ (by omega)];omega
   go_enter Tryz.func93,Tryz.ntmps93
   go_wp2;go_ret;unfold a7M D.fails;rw[if_neg hw,if_pos hb];refine⟨rfl,⟨m1,m2,mv,gs,dv,?_⟩,(Off.refl a w).setCell 5 _⟩;exact H.out.box' ((Off.refl a w).setCell 5 _) (by first|exact HB.out.set 5 _|(have:=HB.out.set 5 (.int .i64 ((d.bad - 1:Nat):Int));simpa using this)) rfl rfl rfl rfl rfl (by dsimp only;omega)
  ·go_enter Tryz.func93,Tryz.ntmps93
   go_wp2;go_ret;unfold a7M D.fails;rw[if_neg hw,if_neg hb];exact⟨rfl,⟨m1,m2,mv,gs,dv,H.out⟩,Off.refl a w⟩
def ErrAt(w:World)(v:Value):Er->Prop
 | .ok=>v=.nilIface
 | .num n=>v=Y5 n
 | .file n name=>∃b,v=.iface 132 (.pointer (some ⟨b,0,none⟩))/\o7 w b 134 #[strV name,.int .i64 n]
theorem a1v{w:World}{F:Nat->Prop}{n:Int}{name:Nm}(hF:∀b,F b->b<w.heap.size):
 Held (w.alloc (.cells #[strV name,.int .i64 n] 134)) F (fun W=>ErrAt W (.iface 132 (.pointer (some ⟨w.heap.size,0,none⟩))) (.file n name)):=by
 have hb:o7 (w.alloc (.cells #[strV name,.int .i64 n] 134)) w.heap.size 134 #[strV name,.int .i64 n]:=o7.new _ _ rfl;exact(Held.box hb (fun h=>by have:=hF _ h;omega)).mono fun W hW=>⟨_,rfl,hW⟩
theorem a3f(w:World)(F:Nat->Prop):Held w F (fun W=>ErrAt W .nilIface .ok):=(Held.true w F).mono fun _ _=>rfl
theorem b2o(w:World)(F:Nat->Prop)(n:Int):Held w F (fun W=>ErrAt W (Y5 n) (.num n)):=(Held.true w F).mono fun _ _=>rfl
def a4Q(F:Nat->Prop)(a:Nat)(d:D)(name:Nm)(w:World)(e:Ending)(w':World):Prop:=
 ∃v,e=.returned (.tuple #[a4S (d.find name).1,v])/\Held w' F (fun W=>ErrAt W v (d.find name).2.1)/\A8 w' F a (d.find name).2.2/\Chg F F w w'
theorem b2p(w:World):(zeroValue 170).run Tryz.prog w=.ok (.pointer none) w:=by kernel_rfl
theorem a5m(F:Nat->Prop)(a:Nat)(d:D)(name:Nm)(w:World)(h:A8 w F a d)(hn:name.length<=maxLen):Calls Tryz.prog 124 #[y8 a,strV name] w (a4Q F a d name w):=by
 have hfail:=a6e F a d w h;have h0:=h;obtain⟨m1,m2,mv,gs,dv,h⟩:=h;have c0:=h.box.cell 0;have hlk:=h.now.look a3N a3M Tryz.underlying171 (b2p w) (a8i hn);have hfa:=h.fa;have h0low:=h.low;clear h;have HF:=Lib.hid hfail;have H0:=Lib.hid h0;clear hfail h0;have hlow:=h0low;unfold strV y8 at *
 cases hl:F5 d.now name with
 | none=>
  rw[hl] at hlk;simp only[Option.map_none,Option.getD_none] at hlk;go_enter Tryz.func124,Tryz.ntmps124
  go_wp2_with fail
  refine HF.out.mono ?_;rintro e w1 ⟨rfl,hD,hO⟩;have hl1:∀b,F b->b<w1.heap.size:=hD.low;have HD:=Lib.hid hD;have HO:=Lib.hid hO;clear hD hO hlk
  cases hf:d.fails.1 with
  | true=>
   go_wp2;go_ret2
   unfold a4Q D.find;rw[if_pos hf]
   exact⟨_,rfl,a1v hl1,HD.out.ext ((Ext.refl w1).new _),(Chg.off HO.out hfa).trans (Chg.ext ((Ext.refl w1).new _))⟩
  | false=>
   go_wp2;go_ret2
   unfold a4Q D.find;rw[if_neg (by rw[hf];decide),hl]
   exact⟨_,rfl,a1v hl1,HD.out.ext ((Ext.refl w1).new _),(Chg.off HO.out hfa).trans (Chg.ext ((Ext.refl w1).new _))⟩
 | some x=>
  rw[hl] at hlk;simp only[Option.map_some,Option.getD_some] at hlk;go_enter Tryz.func124,Tryz.ntmps124
  go_wp2_with fail
  refine HF.out.mono ?_;rintro e w1 ⟨rfl,hD,hO⟩;have hl1:∀b,F b->b<w1.heap.size:=hD.low;have HD:=Lib.hid hD;have HO:=Lib.hid hO;clear hD hO hlk
  cases hf:d.fails.1 with
  | true=>
   go_wp2;go_ret2
   unfold a4Q D.find;rw[if_pos hf]
   exact⟨_,rfl,a1v hl1,HD.out.ext ((Ext.refl w1).new _),(Chg.off HO.out hfa).trans (Chg.ext ((Ext.refl w1).new _))⟩
  | false=>
   go_wp2;go_ret2
   unfold a4Q D.find;rw[if_neg (by rw[hf];decide),hl];exact⟨_,rfl,a3f _ _,HD.out,Chg.off HO.out hfa⟩
end
section
open Go.RowKit Go.Lib Go.Maps Dk Go.Extern
theorem a2L(h:Value)(w:World):(Go.method 495 275 (.agg #[h]) "Comparable").run Tryz.prog w=.ok (260,.agg #[h]) w:=by kernel_rfl
theorem methodUnwrap(h:Value)(w:World):(Go.method 495 132 h "Unwrap").run Tryz.prog w=.ok (253,h) w:=by kernel_rfl
theorem b8S(w:World):((ReflectliteType.method fun t=>do Rtype.noPackHeld "Comparable" t;Functor.map (fun a:TypeInfo=>Value.bool a.comparable) (typeInfo t)) #[.agg #[.pointer (some ⟨7,37,none⟩)]]).run Tryz.prog w=.ok (.bool true) w:=by kernel_rfl
theorem b8T(v:Value)(w:World):(binOp .eql 34 .nilIface (.iface 37 v)).run Tryz.prog w=.ok (.bool false) w:=by kernel_rfl
theorem b8U(p:Option Addr)(n:Int)(w:World):(binOp .eql 34 (.iface 132 (.pointer p)) (.iface 37 (.int .i64 n))).run Tryz.prog w=.ok (.bool false) w:=by kernel_rfl
theorem b8V(m n:Int)(w:World):(binOp .eql 34 (.iface 37 (.int .i64 m)) (.iface 37 (.int .i64 n))).run Tryz.prog w=.ok (.bool (m==n)) w:=by kernel_rfl
theorem is_nil(n:Int)(w:World):Calls Tryz.prog 57 #[.nilIface,Y5 n] w fun e w'=>e=.returned (.bool false)/\w'=w:=by
 unfold Y5;have q1:=b8T;have q2:=b8V;go_enter Tryz.func57,Tryz.ntmps57
 go_wp2;go_ret;exact⟨rfl,rfl⟩
theorem c3n(m n:Int)(w:World):Calls Tryz.prog 57 #[Y5 m,Y5 n] w fun e w'=>e=.returned (.bool (decide (m=n)))/\w'=w:=by
 unfold Y5;have h7:=@run_callFunc_extern Tryz.prog 97 _ ReflectliteType.typeOf Tryz.func97 (by kernel_rfl) (by kernel_rfl) (by kernel_rfl) (by kernel_rfl);have h8:=@run_callFunc_extern Tryz.prog 260 _ (ReflectliteType.method fun t=>do Rtype.noPackHeld "Comparable" t;pure (.bool (<-typeInfo t).comparable)) Tryz.func260 (by kernel_rfl) (by kernel_rfl) (by kernel_rfl) (by kernel_rfl);have tO:=a5i;have mC:=a2L;have cE:=b8S;have mU:=methodUnwrap;have q1:=b8T;have q2:=b8V;have q3:=b8U;have tA1:=run_typeAssert_lacksB (P:=Tryz.prog) (z:=.nilIface) (t:=37) (asserted:=277) rfl (by kernel_rfl) (by kernel_rfl);have tA2:=run_typeAssert_lacksB (P:=Tryz.prog) (z:=.nilIface) (t:=37) (asserted:=280) rfl (by kernel_rfl) (by kernel_rfl);have tA3:=run_typeAssert_lacksB (P:=Tryz.prog) (z:=.nilIface) (t:=37) (asserted:=281) rfl (by kernel_rfl) (by kernel_rfl);have tA4:=run_typeAssert_lacksB (P:=Tryz.prog) (z:=.nilIface) (t:=132) (asserted:=277) rfl (by kernel_rfl) (by kernel_rfl);have tA5:=run_typeAssert_hasB (P:=Tryz.prog) (t:=132) (asserted:=280) rfl (by kernel_rfl);by_cases hmn:m=n
 ·have hb:(m==n)=true:=beq_iff_eq.2 hmn;have hd:decide (m=n)=true:=decide_eq_true hmn;have HD:=Lib.hid hd;clear hd hmn;go_enter Tryz.func57,Tryz.ntmps57
  go_wp2;refine wp_loop_rounds 1 ?_;rw[rounds_succ];go_wp2;go_ret;exact⟨by rw[HD.out];rfl,rfl⟩
 ·have hb:(m==n)=false:=beq_eq_false_iff_ne.2 hmn;have hd:decide (m=n)=false:=decide_eq_false hmn;have HD:=Lib.hid hd;clear hd hmn;go_enter Tryz.func57,Tryz.ntmps57
  go_wp2;refine wp_loop_rounds 1 ?_;rw[rounds_succ];go_wp2;go_ret;exact⟨by rw[HD.out];rfl,rfl⟩
theorem c1n(b:Nat)(name:Nm)(m n:Int)(w:World)(hb:o7 w b 134 #[strV name,.int .i64 m]):
 Calls Tryz.prog 57 #[.iface 132 (.pointer (some ⟨b,0,none⟩)),Y5 n] w fun e w'=>e=.returned (.bool (decide (m=n)))/\w'=w:=by
 unfold Y5;have c1:=(hb.cell 1).trans (show _=some (Value.int .i64 m) from rfl);clear hb;have h7:=@run_callFunc_extern Tryz.prog 97 _ ReflectliteType.typeOf Tryz.func97 (by kernel_rfl) (by kernel_rfl) (by kernel_rfl) (by kernel_rfl);have h8:=@run_callFunc_extern Tryz.prog 260 _ (ReflectliteType.method fun t=>do Rtype.noPackHeld "Comparable" t;pure (.bool (<-typeInfo t).comparable)) Tryz.func260 (by kernel_rfl) (by kernel_rfl) (by kernel_rfl) (by kernel_rfl);have tO:=a5i;have mC:=a2L;have cE:=b8S;have mU:=methodUnwrap;have q1:=b8T;have q2:=b8V;have q3:=b8U;have tA1:=run_typeAssert_lacksB (P:=Tryz.prog) (z:=.nilIface) (t:=37) (asserted:=277) rfl (by kernel_rfl) (by kernel_rfl);have tA2:=run_typeAssert_lacksB (P:=Tryz.prog) (z:=.nilIface) (t:=37) (asserted:=280) rfl (by kernel_rfl) (by kernel_rfl);have tA3:=run_typeAssert_lacksB (P:=Tryz.prog) (z:=.nilIface) (t:=37) (asserted:=281) rfl (by kernel_rfl) (by kernel_rfl);have tA4:=run_typeAssert_lacksB (P:=Tryz.prog) (z:=.nilIface) (t:=132) (asserted:=277) rfl (by kernel_rfl) (by kernel_rfl);have tA5:=run_typeAssert_hasB (P:=Tryz.prog) (t:=132) (asserted:=280) rfl (by kernel_rfl);by_cases hmn:m=n
 ·have hb:(m==n)=true:=beq_iff_eq.2 hmn;have hd:decide (m=n)=true:=decide_eq_true hmn;have HD:=Lib.hid hd;clear hd hmn;go_enter Tryz.func57,Tryz.ntmps57
  go_wp2;refine wp_loop_rounds 2 ?_;rw[rounds_succ];go_wp2;all_goals (try rw[rounds_succ])
  all_goals go_wp2
  go_ret;exact⟨by rw[HD.out];rfl,rfl⟩
 ·have hb:(m==n)=false:=beq_eq_false_iff_ne.2 hmn;have hd:decide (m=n)=false:=decide_eq_false hmn;have HD:=Lib.hid hd;clear hd hmn;go_enter Tryz.func57,Tryz.ntmps57
  go_wp2;refine wp_loop_rounds 2 ?_;rw[rounds_succ];go_wp2;all_goals (try rw[rounds_succ])
  all_goals go_wp2
  go_ret;exact⟨by rw[HD.out];rfl,rfl⟩
theorem b8W(er:Er)(v:Value)(n:Int)(w:World)(h:ErrAt w v er)(hn:n≠0):Calls Tryz.prog 57 #[v,Y5 n] w fun e w'=>e=.returned (.bool (decide (er.code=n)))/\w'=w:=by
 cases er with
 | ok=>
  obtain rfl:v=.nilIface:=h;have e:decide (Er.code .ok=n)=false:=decide_eq_false (fun h=>hn h.symm)
  rw[e];exact is_nil n w
 | num m=>
  obtain rfl:v=Y5 m:=h
  exact c3n m n w
 | file m name=>
  obtain⟨b,rfl,hb⟩:=h;exact c1n b name m n w hb
end
section
open Go.RowKit Go.Lib Go.Maps Dk
theorem c2M{γ:Type}(f:γ->List Value)(hf:∀x,(f x).length=2):∀(l:List γ)(i:Nat)(x:γ),l[i]?=some x->∀j,j<2->(l.flatMap f)[2*i+j]?=(f x)[j]?:=by
 intro l
 induction l with
 | nil=>intro i x h;simp at h
 | cons y l ih=>
  intro i x h j hj;rw[List.flatMap_cons]
  cases i with
  | zero=>
   simp at h;subst h
   rw[List.getElem?_append_left (by rw[hf];omega)];simp
  | succ i=>
   simp at h;rw[List.getElem?_append_right (by rw[hf];omega),hf,show 2*(i+1)+j - 2=2*i+j by omega];exact ih i x h j hj
theorem a0z.cells{w:World}{g:Nat}{l:List Mv}(h:a0z w g l){i:Nat}{m:Mv}(hi:l[i]?=some m):w.cell? ⟨g,i*2,none⟩=some (strV m.1)/\w.cell? ⟨g,i*2+1,none⟩=some (a4S m.2):=by
 have e0:=c2M moveCells (fun _=>rfl) l i m hi 0 (by omega);have e1:=c2M moveCells (fun _=>rfl) l i m hi 1 (by omega);unfold a0z at h;refine⟨?_,?_⟩
 ·rw[h.cell,List.getElem?_toArray,show i*2=2*i+0 by omega,e0];rfl
 ·rw[h.cell,List.getElem?_toArray,show i*2+1=2*i+1 by omega,e1];rfl
def c4w(r:Nat)(l:List (Nm×Nat))(ms:List Mv)(w:World)(e:Ending)(w':World):Prop:=
 e=.returned (.tuple #[])/\a3B w' r (D5 l ms)/\Chg (fun b=>b=r) (fun b=>b=r) w w'
theorem set_any(r g:Nat)(l:List (Nm×Nat))(ms:List Mv)(w:World)(h:a3B w r l)(hg:a0z w g ms)(hms:∀m∈ms,m.1.length<=maxLen)(hlen:ms.length<=1000000):
 Calls Tryz.prog 80 #[.map (some r),mvV g ms] w (c4w r l ms w):=by
 have H:=Lib.hid h;have HG:=Lib.hid hg;have HM:=Lib.hid hms;clear h hg hms;have hgr:r≠g:=by
  rintro rfl;obtain⟨es,c,h1,_⟩:=H.out;have:=HG.out;unfold a0z o7 at this;rw[h1] at this;cases this
 unfold mvV;go_enter Tryz.func80,Tryz.ntmps80
 go_wp2;go_loopw [8] (fun i wr=>∃k:Nat,k<=ms.length/\i=.int .i64 k/\a3B wr r (D5 l (ms.take k))/\Chg (fun b=>b=r) (fun b=>b=r) w wr) (fun i _=>ms.length - (intOf i).toNat)
 case atStart=>exact⟨0,Nat.zero_le _,rfl,H.out,Chg.refl _ w⟩
 case round=>
  obtain⟨k,hk,rfl,hN,hC⟩:=hrel;by_cases hlt:k<ms.length
  ·have hgk:wr.heap[g]?=w.heap[g]?:=hC.block g (lt_of_block HG.out) (Ne.symm hgr);have hGr:a0z wr g ms:=hgk.trans HG.out;obtain⟨m,hm⟩:∃m,ms[k]?=some m:=⟨_,List.getElem?_eq_getElem hlt⟩;obtain⟨x0,x1⟩:=hGr.cells hm;have hml:=HM.out m (List.mem_of_getElem? hm);have htk:ms.take (k+1)=ms.take k++[m]:=by rw[List.take_add_one,hm];rfl
   have HT:=Lib.hid htk;have HN:=Lib.hid hN;have HC:=Lib.hid hC;clear hgk hGr htk hN hC;obtain⟨nm,fo⟩:=m
   cases fo with
   | none=>
    simp only[a4S] at x1;have hN1:a3B (wr.alloc (.cells #[strV nm,.pointer none] 251)) r (D5 l (ms.take k)):=HN.out.ext ((Ext.refl wr).new _);obtain⟨w2,hrun,hN2,hO2⟩:=hN1.drop a3N a3M Tryz.underlying171 (a8i hml) 0;have HN2:=Lib.hid hN2;have HO2:=Lib.hid hO2;clear hN1 hN2 hO2;unfold strV at x0 hrun HO2;go_wp2;go_roundw
    case rel=>
     refine⟨k+1,by omega,by go_num,?_,?_⟩
     ·rw[HT.out,a4E];exact HN2.out
     ·exact(HC.out.trans (Chg.ext ((Ext.refl wr).new _))).trans (Chg.off HO2.out rfl)
    case measure=>simp[intOf];omega
   | some f=>
    simp only[a4S] at x1;have hN1:a3B (wr.alloc (.cells #[strV nm,y8 f] 251)) r (D5 l (ms.take k)):=HN.out.ext ((Ext.refl wr).new _);obtain⟨w2,hrun,hN2,hO2⟩:=hN1.store a3N a3M Tryz.underlying171 (a8i hml) f;have HN2:=Lib.hid hN2;have HO2:=Lib.hid hO2;clear hN1 hN2 hO2;unfold y8 at x1;unfold strV at x0;unfold strV y8 at hrun HO2;go_wp2;go_roundw
    case rel=>
     refine⟨k+1,by omega,by go_num,?_,?_⟩
     ·rw[HT.out,a4E];exact HN2.out
     ·exact(HC.out.trans (Chg.ext ((Ext.refl wr).new _))).trans (Chg.off HO2.out rfl)
    case measure=>simp[intOf];omega
  ·obtain rfl:k=ms.length:=by omega
   rw[List.take_length] at hN;go_wp2;go_end0
   exact⟨rfl,hN,hC⟩
end
section
open Go.RowKit Go.Lib Go.Maps Dk
theorem a1l{w:World}{e1 e2:TypeId}{s1 s2 n1 n2 B1 B2:Nat}{v1 v2:Value}{x1 x2:List Value}(h1:w.ownsRow B1 e1 s1 v1 n1 x1)(h2:w.ownsRow B2 e2 s2 v2 n2 x2)(he:e1≠e2){b:Nat}(hb:v1.ownBlock=some b):v2.ownBlock≠some b:=by
 intro hb2;rcases h1.2 with⟨rfl,_⟩|⟨g,cap,cur,rfl,_,hh,_⟩
 ·cases hb
 ·simp[Value.ownBlock] at hb;subst hb;rcases h2.2 with⟨rfl,_⟩|⟨g',cap',cur',rfl,_,hh',_⟩
  ·cases hb2
  ·simp[Value.ownBlock] at hb2;subst hb2;rw[hh] at hh';injection hh' with hh';injection hh' with _ hh' _;exact he hh'
section
variable{w w':World}{F:Nat->Prop}{a m1 m2:Nat}{mv:Value}{gs:List Nat}{dv:Nat->Value}{d:D}
theorem DiskRep.now'(h:DiskRep w F a m1 m2 mv gs dv d)(hk:∀b,b<w.heap.size->b≠m1->w'.heap[b]?=w.heap[b]?)(hs:w.heap.size<=w'.heap.size){l:List (Nm×Nat)}(hN:a3B w' m1 l)(hl:∀p∈l,p.2∈d.ids):
 DiskRep w' F a m1 m2 mv gs dv {d with now:=l} where
 box:=(hk a (h.low a h.fa) (Ne.symm (h.map_ne h.box).1)).trans h.box
 now:=hN
 safe:=h.safe.block (hk _ (h.low _ h.fm.2) (Ne.symm h.ne))
 ne:=h.ne
 rows:=⟨h.rows.1,fun i g l hg hl=>(hk g (h.low g (h.fg g (List.mem_of_getElem? hg))) (Ne.symm (h.map_ne (h.rows.2 i g l hg hl)).1)).trans (h.rows.2 i g l hg hl)⟩
 outer:=Dep.row h.outer w' fun b hb=>hk b (h.low b (h.fo b hb)) (fun e=>Q5 h.outer h.now (e▸hb))
 outf:=h.outf.keep fun b hb=>hk b (h.low b (h.fo b hb)) (fun e=>Q5 h.outer h.now (e▸hb))
 flat:=fun x hx=>(h.flat x hx).keep fun b hb=>hk b (h.low b ((h.fx x hx).2 b hb)) (fun e=>Q5 (h.file x hx).2 h.now (e▸hb))
 file:=fun x hx=>⟨(hk x (h.low x (h.fx x hx).1) (Ne.symm (h.map_ne (h.file x hx).1).1)).trans (h.file x hx).1,Dep.row (h.file x hx).2 w' fun b hb=>hk b (h.low b ((h.fx x hx).2 b hb)) (fun e=>Q5 (h.file x hx).2 h.now (e▸hb))⟩
 apart:=h.apart
 fa:=h.fa
 fm:=h.fm
 fg:=h.fg
 fo:=h.fo
 fx:=h.fx
 low:=fun b hb=>Nat.lt_of_lt_of_le (h.low b hb) hs
 wf:=⟨hl,h.wf.safe,h.wf.moves,h.wf.part,h.wf.ids⟩
 num:=h.num
theorem DiskRep.safe'(h:DiskRep w F a m1 m2 mv gs dv d)(hk:∀b,b<w.heap.size->b≠m2->w'.heap[b]?=w.heap[b]?)(hs:w.heap.size<=w'.heap.size){l:List (Nm×Nat)}(hN:a3B w' m2 l)(hl:∀p∈l,p.2∈d.ids):
 DiskRep w' F a m1 m2 mv gs dv {d with safe:=l} where
 box:=(hk a (h.low a h.fa) (Ne.symm (h.map_ne h.box).2)).trans h.box
 now:=h.now.block (hk _ (h.low _ h.fm.1) h.ne)
 safe:=hN
 ne:=h.ne
 rows:=⟨h.rows.1,fun i g l hg hl=>(hk g (h.low g (h.fg g (List.mem_of_getElem? hg))) (Ne.symm (h.map_ne (h.rows.2 i g l hg hl)).2)).trans (h.rows.2 i g l hg hl)⟩
 outer:=Dep.row h.outer w' fun b hb=>hk b (h.low b (h.fo b hb)) (fun e=>Q5 h.outer h.safe (e▸hb))
 outf:=h.outf.keep fun b hb=>hk b (h.low b (h.fo b hb)) (fun e=>Q5 h.outer h.safe (e▸hb))
 flat:=fun x hx=>(h.flat x hx).keep fun b hb=>hk b (h.low b ((h.fx x hx).2 b hb)) (fun e=>Q5 (h.file x hx).2 h.safe (e▸hb))
 file:=fun x hx=>⟨(hk x (h.low x (h.fx x hx).1) (Ne.symm (h.map_ne (h.file x hx).1).2)).trans (h.file x hx).1,Dep.row (h.file x hx).2 w' fun b hb=>hk b (h.low b ((h.fx x hx).2 b hb)) (fun e=>Q5 (h.file x hx).2 h.safe (e▸hb))⟩
 apart:=h.apart
 fa:=h.fa
 fm:=h.fm
 fg:=h.fg
 fo:=h.fo
 fx:=h.fx
 low:=fun b hb=>Nat.lt_of_lt_of_le (h.low b hb) hs
 wf:=⟨h.wf.now,hl,h.wf.moves,h.wf.part,h.wf.ids⟩
 num:=h.num
theorem DiskRep.addNode(h:DiskRep w F a m1 m2 mv gs dv d){x:Nat}(hx:o7 w x 176 #[.slice none 0 0,.int .i64 0])(hF:F x)(hn:x∉d.ids):
 DiskRep w F a m1 m2 mv gs (fun i=>if i=x then .slice none 0 0 else dv i) {d with ids:=d.ids++[x],node:=upd d.node x ⟨[],0⟩}:=by
 have hne:∀y∈d.ids,y≠x:=fun y hy e=>hn (e▸hy);exact{
  box:=h.box
  now:=h.now
  safe:=h.safe
  ne:=h.ne
  rows:=h.rows
  outer:=h.outer
  outf:=h.outf
  flat:=by
   intro y hy;rcases List.mem_append.1 hy with hy|hy
   ·have e:=hne y hy;simp only[if_neg e];exact h.flat y hy
   ·simp at hy;subst hy;simp only[if_true];exact a18.nil _ _ _
  file:=by
   intro y hy;rcases List.mem_append.1 hy with hy|hy
   ·have e:=hne y hy;simp only[upd,if_neg e];exact h.file y hy
   ·simp at hy;subst hy;simp only[upd,if_true];exact⟨hx,⟨rfl,Or.inl ⟨rfl,rfl⟩⟩⟩
  apart:=by
   intro y hy z hz hyz b hb;rcases List.mem_append.1 hy with hy|hy
   ·have e:=hne y hy;simp only[if_neg e] at hb;rcases List.mem_append.1 hz with hz|hz
    ·have e':=hne z hz;simp only[if_neg e'];exact h.apart y hy z hz hyz b hb
    ·simp at hz;subst hz;simp[Value.ownBlock]
   ·simp at hy;subst hy;simp[Value.ownBlock] at hb
  fa:=h.fa
  fm:=h.fm
  fg:=h.fg
  fo:=h.fo
  fx:=by
   intro y hy;rcases List.mem_append.1 hy with hy|hy
   ·have e:=hne y hy;simp only[if_neg e];exact h.fx y hy
   ·simp at hy;subst hy;exact⟨hF,by simp[Value.ownBlock]⟩
  low:=h.low
  wf:=by
   refine⟨fun p hp=>List.mem_append.2 (.inl (h.wf.now p hp)),fun p hp=>List.mem_append.2 (.inl (h.wf.safe p hp)),fun l hl m hm f hf=>List.mem_append.2 (.inl (h.wf.moves l hl m hm f hf)),?_,?_⟩
   ·intro y hy;rcases List.mem_append.1 hy with hy|hy
    ·have e:=hne y hy;simp only[upd,if_neg e];exact h.wf.part y hy
    ·simp at hy;subst hy;simp[upd]
   ·show(d.ids++[x]).Nodup;rw[List.nodup_append];exact⟨h.wf.ids,by simp,fun p hp q hq=>by simp at hq;subst hq;exact hne p hp⟩
  num:=h.num}
theorem DiskRep.moves'(h:DiskRep w F a m1 m2 mv gs dv d){g:Nat}{ms:List Mv}{w1:World}{mv':Value}{u:List Value}{n:Nat}(hE:Ext w w1)(hg:a0z w g ms)(hgrow:w1.grownBy w' mv.ownBlock)(hown:w'.ownsRow 0 187 1 mv' n u)
 (hn:n=d.moves.length+1)(hu:u=((gs.zip d.moves).map fun p=>mvV p.1 p.2)++[mvV g ms])(hfg:F g){G:Nat->Prop}(hG:∀b,G b<->F b\/(w.heap.size<=b/\b<w'.heap.size))(hm:∀m∈ms,∀f,m.2=some f->f∈d.ids)
 (hat:∀b,mv'.ownBlock=some b->mv.ownBlock=some b\/w.heap.size<=b)(hfl:a5o (a6f (gs++[g])) w' mv'):
 DiskRep (w'.setCell ⟨a,2,none⟩ mv') G a m1 m2 mv' (gs++[g]) dv {d with moves:=d.moves++[ms]}:=by
 have hlow:=h.low;have hk1:∀b,b<w.heap.size->mv.ownBlock≠some b->w'.heap[b]?=w.heap[b]?:=fun b hb hne=>(hgrow.block b (Nat.lt_of_lt_of_le hb hE.size) (fun e=>hne e.symm)).trans (hE.block b hb);have hk:∀b,b<w.heap.size->mv.ownBlock≠some b->b≠a->(w'.setCell ⟨a,2,none⟩ mv').heap[b]?=w.heap[b]?:=fun b hb hne ha=>(Below.heap_setCell _ _ _ _ ha).trans (hk1 b hb hne);have hba:=F9 h.outer h.box (by decide);have hbox1:o7 w' a 174 #[.map (some m1),.map (some m2),mv,.int .i64 d.room,.int .i64 d.wait,.int .i64 d.bad]:=(hk1 a (hlow a h.fa) hba).trans h.box;have hsz:w.heap.size<=w'.heap.size:=Nat.le_trans hE.size hgrow.size;have hmvF:∀b,mv.ownBlock=some b->b<w.heap.size:=fun b hb=>hlow b (h.fo b hb);have hlen:=h.rows.1;exact{
  box:=hbox1.set 2 mv'
  now:=h.now.block (hk _ (hlow _ h.fm.1) (Q5 h.outer h.now) (h.map_ne h.box).1)
  safe:=h.safe.block (hk _ (hlow _ h.fm.2) (Q5 h.outer h.safe) (h.map_ne h.box).2)
  ne:=h.ne
  rows:=by
   refine⟨by simp[hlen],fun i g' l hg' hl=>?_⟩;have key:∀q k,F q->a0z w q k->a0z (w'.setCell ⟨a,2,none⟩ mv') q k:=fun q k hq hqk=>
    (hk q (hlow q hq) (F9 h.outer hqk (by decide)) (a3i hqk h.box (by decide))).trans hqk
   by_cases hi:i<gs.length
   ·rw[List.getElem?_append_left hi] at hg';rw[List.getElem?_append_left (by omega)] at hl;exact key g' l (h.fg g' (List.mem_of_getElem? hg')) (h.rows.2 i g' l hg' hl)
   ·rw[List.getElem?_append_right (by omega)] at hg';rw[List.getElem?_append_right (by omega)] at hl;have e0:i - gs.length=0:=by
     rcases Nat.eq_zero_or_pos (i - gs.length) with e|e
     ·exact e
     ·rw[List.getElem?_eq_none (by simp;omega)] at hg';cases hg'
    rw[e0] at hg';rw[<-hlen,e0] at hl;simp at hg' hl;subst hg';subst hl;exact key g ms hfg hg
  outer:=by
   have e1:(d.moves++[ms]).length=n:=by simp[hn]
   have e2:(((gs++[g]).zip (d.moves++[ms])).map fun p=>mvV p.1 p.2)=u:=by
    rw[List.zip_append hlen];simp[hu]
   show(w'.setCell ⟨a,2,none⟩ mv').ownsRow 0 187 1 mv' (d.moves++[ms]).length _;rw[e1,e2];exact ownsRow_setCell_other (a:=⟨a,2,none⟩) hown (F9 hown hbox1 (by decide)) _
  outf:=hfl.keep fun b hb=>Below.heap_setCell _ _ _ _ (fun(e:b=a)=>F9 hown hbox1 (by decide) (e▸hb))
  flat:=fun x hx=>(h.flat x hx).keep fun b hb=>hk b (hlow b ((h.fx x hx).2 b hb)) (a1l (h.file x hx).2 h.outer (by decide) hb) (fun e=>F9 (h.file x hx).2 h.box (by decide) (e▸hb))
  file:=fun x hx=>⟨(hk x (hlow x (h.fx x hx).1) (F9 h.outer (h.file x hx).1 (by decide)) (a3i (h.file x hx).1 h.box (by decide))).trans (h.file x hx).1,
   Dep.row (h.file x hx).2 _ fun b hb=>hk b (hlow b ((h.fx x hx).2 b hb)) (a1l (h.file x hx).2 h.outer (by decide) hb) (fun e=>F9 (h.file x hx).2 h.box (by decide) (e▸hb))⟩
  apart:=h.apart
  fa:=(hG a).2 (.inl h.fa)
  fm:=⟨(hG _).2 (.inl h.fm.1),(hG _).2 (.inl h.fm.2)⟩
  fg:=by
   intro q hq;rcases List.mem_append.1 hq with hq|hq
   ·exact(hG q).2 (.inl (h.fg q hq))
   ·simp at hq;subst hq;exact(hG _).2 (.inl hfg)
  fo:=by
   intro b hb;rcases hat b hb with h1|h1
   ·exact(hG b).2 (.inl (h.fo b h1))
   ·exact(hG b).2 (.inr ⟨h1,a3O hown hb⟩)
  fx:=fun x hx=>⟨(hG x).2 (.inl (h.fx x hx).1),fun b hb=>(hG b).2 (.inl ((h.fx x hx).2 b hb))⟩
  low:=by
   intro b hb;have:(w'.setCell ⟨a,2,none⟩ mv').heap.size=w'.heap.size:=by simp[World.setCell]
   rw[this];rcases(hG b).1 hb with h1|h1
   ·have:=hlow b h1;omega
   ·exact h1.2
  wf:=⟨h.wf.now,h.wf.safe,fun k hk' x hx f hf=>by
   rcases List.mem_append.1 hk' with hk'|hk'
   ·exact h.wf.moves k hk' x hx f hf
   ·simp at hk';subst hk';exact hm x hx f hf,h.wf.part,h.wf.ids⟩
  num:=h.num}
end
end
section
open Go.RowKit Go.Lib Go.Maps Dk
theorem b8K:(Tryz.prog.info? 187).map (fun i=>(i.zero,i.size,i.bytes))=some (some (.slice none 0 0),1,24):=by kernel_rfl
theorem a0z.ext'{w w':World}{g:Nat}{l:List Mv}(h:a0z w g l)(hE:Ext w w'):a0z w' g l:=(hE.block g (lt_of_block h)).trans h
def b8L(F:Nat->Prop)(a:Nat)(d:D)(ms:List Mv)(w:World)(e:Ending)(w':World):Prop:=
 e=.returned (.tuple #[])/\∃F',A8 w' F' a (d.mv ms)/\Chg F F' w w'/\∀b,F b->F' b
theorem name_any(F:Nat->Prop)(a g:Nat)(d:D)(ms:List Mv)(w:World)(h:A8 w F a d)(hg:a0z w g ms)(hF:F g)(hms:∀m∈ms,m.1.length<=maxLen)(hlen:ms.length<=1000000)(hml:d.moves.length<=1000000)
 (hid:∀m∈ms,∀f,m.2=some f->f∈d.ids):Calls Tryz.prog 148 #[y8 a,mvV g ms] w (b8L F a d ms w):=by
 obtain⟨m1,m2,mv,gs,dv,h⟩:=h;obtain⟨i0,hi,hz0,hz1,hz2⟩:=info_parts b8K;obtain⟨mva,mvc,rfl⟩:=ownsRow_form h.outer;have c0:=h.box.cell 0;have hset:=set_any m1 g d.now ms w h.now hg hms hlen;have HS:=Lib.hid hset;have H:=Lib.hid h;have HG:=Lib.hid hg;have HI:=Lib.hid hid;clear hset h hg hms hid;show Calls Tryz.prog 148 #[.pointer (some ⟨a,0,none⟩),.slice (some ⟨g,0,none⟩) ms.length ms.length] w (b8L F a d ms w);go_enter Tryz.func148,Tryz.ntmps148
 go_wp2_with fail
 refine HS.out.mono ?_;rintro e w1 ⟨rfl,hN,hC⟩;have hl':∀p∈D5 d.now ms,p.2∈d.ids:=by
  intro p hp;rcases a0Y hp with hp|⟨x,hx,e⟩
  ·exact H.out.wf.now p hp
  ·exact HI.out x hx _ e
 have hR:DiskRep w1 F a m1 m2 _ gs dv {d with now:=D5 d.now ms}:=H.out.now' (fun b hb hne=>hC.block b hb hne) hC.size hN hl';have hG1:a0z w1 g ms:=(hC.block g (lt_of_block HG.out) (Ne.symm (H.out.map_ne HG.out).1)).trans HG.out;have c2:=hR.box.cell 2;have f2:=hR.box.free 2;have hown:=hR.outer;have hbx:=hR.box;have hba:=F9 hown hbx (by decide);have halt:=lt_of_block hbx;have mvz:∀x∈(Value.slice none 0 0).cells,a6f (gs++[g]) x:=fun x hx=>.inl (by simpa [Value.cells] using hx);have mvn:∀x∈[mvV g ms],a6f (gs++[g]) x:=fun x hx=>.inr ⟨g,ms.length,by simp,by simpa [mvV] using hx⟩;have mvo:a5o (a6f (gs++[g])) w1 (.slice mva d.moves.length mvc):=fun q c e fr hg hc x hx=>(hR.outf q c e fr hg hc x hx).imp id fun⟨q,n,hq,e⟩=>⟨q,n,List.mem_append_left _ hq,e⟩;have HBX:=Lib.hid hbx;have HBA:=Lib.hid hba;clear hbx hba;have HR:=Lib.hid hR;have HG1:=Lib.hid hG1;have HC:=Lib.hid hC;clear hR hG1 hC hN hl' c0;go_wp2_with (at_builtin;go_must (refine a0e (F:=a6f (gs++[g])) rfl _ _ 172 rfl 0 187 i0 (.slice none 0 0) 1 24 Tryz.underlying172 hi hz0 hz1 hz2 rfl (by omega) (.slice mva d.moves.length mvc) d.moves.length _ rfl (hown.alloc (.cells #[mvV g ms] 187)) (.slice (some ⟨w1.heap.size,0,none⟩) 1 1) 1 [mvV g ms] rfl ⟨_,_,rfl,by omega,⟨by omega,fun h=>by cases h⟩,fun _=>⟨_,rfl,World.news_of_block (cs:=#[mvV g ms]) (t:=187) (fr:=(0,0)) (heap_alloc_new w1 _)⟩⟩ rfl (by simp[Value.oneCell',mvV]) (by unfold maxLen;omega) (by omega) (by omega) mvz mvn (mvo.keep fun b hb=>heap_alloc_old _ _ (a3O hown hb)) ?_);intro b6 c6 w6 hown6 hgrow6 hat6 hfl6;have hb6:=Lib.hid ((hgrow6.block a (by simp;omega) (Ne.symm HBA.out)).trans (HBX.out.alloc (.cells #[mvV g ms] 187)));have c62:=o7.cell hb6.out 2;have f62:=o7.free hb6.out 2)
 go_end0
 have hE6:Ext w1 (w1.alloc (.cells #[mvV g ms] 187)):=(Ext.refl w1).new _;have hR6:=HR.out.moves' (G:=fun b=>F b\/(w1.heap.size<=b/\b<w6.heap.size)) hE6 HG1.out hgrow6 hown6 rfl rfl hF (fun b=>Iff.rfl) HI.out (by
  intro b hb;rcases hat6 with h|h
  ·exact .inl (h▸hb)
  ·rw[h] at hb;injection hb with hb;subst hb;exact .inr (by simp)) hfl6
 refine⟨rfl,_,⟨m1,m2,_,_,dv,hR6⟩,?_,fun b hb=>.inl hb⟩;have hsz:w1.heap.size<=w6.heap.size:=Nat.le_trans hE6.size hgrow6.size;have hm1:F m1:=HR.out.fm.1;have hmvF:=HR.out.fo;have hlow:=HR.out.low;have hsC:=HC.out.size;refine⟨hgrow6.os.trans (hE6.os.trans HC.out.os),hgrow6.tape.trans (hE6.tape.trans HC.out.tape),hgrow6.output.trans (hE6.output.trans HC.out.output),by simp[World.setCell];omega,fun b hb hFb=>?_,fun b hb=>?_⟩
 ·have hne1:b≠a:=fun e=>hFb (e▸HR.out.fa);have hne2:(Value.slice mva d.moves.length mvc).ownBlock≠some b:=fun e=>hFb (hmvF b e);rw[Below.heap_setCell _ _ _ _ hne1];exact(hgrow6.block b (by simp;omega) (fun e=>hne2 e.symm)).trans ((hE6.block b (by omega)).trans (HC.out.block b hb (fun e=>hFb (e▸hm1))))
 ·rcases hb with h|h
  ·exact .inl h
  ·exact .inr (by omega)
end
section
open Go.RowKit Go.Lib Go.Maps Dk
def c1k(F:Nat->Prop)(a:Nat)(r:Er×D)(w:World)(e:Ending)(w':World):Prop:=
 ∃F' v,e=.returned v/\Held w' F' (fun W=>ErrAt W v r.1)/\A8 w' F' a r.2/\Chg F F' w w'/\∀b,F b->F' b
theorem a0z.one(w:World)(nm:Nm)(o:Option Nat):a0z (w.alloc (.cells #[strV nm,a4S o] 251)) w.heap.size [(nm,o)]:=o7.new _ _ rfl
theorem A8.wide{w:World}{F:Nat->Prop}{a:Nat}{d:D}(h:A8 w F a d){G:Nat->Prop}(hF:∀b,F b->G b)(hG:∀b,G b->b<w.heap.size):A8 w G a d:=by
 obtain⟨m1,m2,mv,gs,dv,h⟩:=h;exact⟨m1,m2,mv,gs,dv,h.more hF hG⟩
theorem A8.addNode{w:World}{F:Nat->Prop}{a:Nat}{d:D}(h:A8 w F a d){x:Nat}(hx:o7 w x 176 #[.slice none 0 0,.int .i64 0])(hF:F x)(hn:x∉d.ids):
 A8 w F a {d with ids:=d.ids++[x],node:=upd d.node x ⟨[],0⟩}:=by
 obtain⟨m1,m2,mv,gs,dv,h⟩:=h;exact⟨m1,m2,mv,gs,_,h.addNode hx hF hn⟩
theorem A8.ids_lt{w:World}{F:Nat->Prop}{a:Nat}{d:D}(h:A8 w F a d){x:Nat}(hx:x∈d.ids):x<w.heap.size:=by
 obtain⟨m1,m2,mv,gs,dv,h⟩:=h;exact h.low x (h.fx x hx).1
theorem A8.fa{w:World}{F:Nat->Prop}{a:Nat}{d:D}(h:A8 w F a d):F a:=by
 obtain⟨m1,m2,mv,gs,dv,h⟩:=h;exact h.fa
theorem Chg.wide{F:Nat->Prop}{w w':World}(h:Ext w w'){G:Nat->Prop}(hG:∀b,G b->F b\/w.heap.size<=b):Chg F G w w':=
 ⟨h.os,h.tape,h.output,h.size,fun b hb _=>h.block b hb,hG⟩
theorem b3L(F:Nat->Prop)(a:Nat)(d:D)(name:Nm)(w:World)(h:A8 w F a d)(hn:name.length<=maxLen)(hml:d.moves.length<=1000000):
 Calls Tryz.prog 90 #[y8 a,strV name] w fun e w'=>∃x,x∉d.ids/\c1k F a (d.create name x) w e w':=by
 have hfail:=a6e F a d w h;have hx0:w.heap.size∉d.ids:=fun hx=>by have:=h.ids_lt hx;omega
 have HF:=Lib.hid hfail;clear hfail h;unfold y8 strV;go_enter Tryz.func90,Tryz.ntmps90
 go_wp2_with fail
 refine HF.out.mono ?_;rintro e w1 ⟨rfl,hD,hO⟩;have HD0:=Lib.hid hD;have HO:=Lib.hid hO;have hl1:∀b,F b->b<w1.heap.size:=hD.low;have hfa:F a:=hD.fa;obtain⟨m1,m2,mv,gs,dv,h⟩:=hD;have c0:=h.box.cell 0;have hids:d.fails.2.ids=d.ids:=d.fails_now.2.2.2.2.1;have hmvs:d.fails.2.moves=d.moves:=d.fails_now.2.2.1;have hlk:=h.now.look a3N a3M Tryz.underlying171 (b2p w1) (a8i hn);have HC0:Chg F F w w1:=Chg.off hO hfa;have HC:=Lib.hid HC0;clear HC0;clear h hO
 cases hf:d.fails.1 with
 | true=>
  clear hlk c0;go_wp2;go_ret;refine⟨_,hx0,F,.iface 132 (.pointer (some ⟨w1.heap.size,0,none⟩)),rfl,?_,?_,HC.out.trans (Chg.ext ((Ext.refl w1).new _)),fun b hb=>hb⟩
  ·unfold D.create;rw[if_pos hf];exact a1v hl1
  ·unfold D.create;rw[if_pos hf];exact HD0.out.ext ((Ext.refl w1).new _)
 | false=>
  have hff:¬d.fails.1=true:=by rw[hf];decide
  cases hl:F5 d.fails.2.now name with
  | some y=>
   rw[hl] at hlk;simp only[Option.map_some,Option.getD_some] at hlk;unfold strV y8 at hlk;go_wp2;go_ret;refine⟨_,hx0,F,.iface 132 (.pointer (some ⟨w1.heap.size,0,none⟩)),rfl,?_,?_,HC.out.trans (Chg.ext ((Ext.refl w1).new _)),fun b hb=>hb⟩
   ·unfold D.create;rw[if_neg hff,if_pos (by rw[hl];rfl)];exact a1v hl1
   ·unfold D.create;rw[if_neg hff,if_pos (by rw[hl];rfl)];exact HD0.out.ext ((Ext.refl w1).new _)
  | none=>
   rw[hl] at hlk;simp only[Option.map_none,Option.getD_none] at hlk;have hE1:Ext w1 (w1.alloc (.cells #[.slice none 0 0,.int .i64 0] 176)):=(Ext.refl w1).new _;have hE2:Ext w1 ((w1.alloc (.cells #[.slice none 0 0,.int .i64 0] 176)).alloc (.cells #[strV name,a4S (some w1.heap.size)] 251)):=hE1.new _;have hxb:o7 (w1.alloc (.cells #[.slice none 0 0,.int .i64 0] 176)) w1.heap.size 176 #[.slice none 0 0,.int .i64 0]:=o7.new _ _ rfl;have hxb2:o7 ((w1.alloc (.cells #[.slice none 0 0,.int .i64 0] 176)).alloc (.cells #[strV name,a4S (some w1.heap.size)] 251)) w1.heap.size 176 #[.slice none 0 0,.int .i64 0]:=hxb.alloc _;have hmv:=a0z.one (w1.alloc (.cells #[.slice none 0 0,.int .i64 0] 176)) name (some w1.heap.size);have hw2:((w1.alloc (.cells #[.slice none 0 0,.int .i64 0] 176)).alloc (.cells #[strV name,a4S (some w1.heap.size)] 251)).heap.size=w1.heap.size+2:=by simp
   have hx1:w1.heap.size∉d.fails.2.ids:=fun hx=>by have:=HD0.out.ids_lt hx;omega
   have hD2:=((HD0.out.ext hE2).wide (G:=fun b=>F b\/w1.heap.size<=b/\b<w1.heap.size+2) (fun b hb=>.inl hb) (fun b hb=>by rw[hw2];rcases hb with hb|hb;(have:=hl1 b hb;omega);omega)).addNode hxb2 (.inr (by omega)) hx1;have hnm:=name_any _ a (w1.heap.size+1) _ [(name,some w1.heap.size)] _ hD2 (by simpa using hmv) (.inr (by omega)) (by simpa using hn) (by simp) (by rw[hmvs];exact hml) (by simp);have hch:Chg F (fun b=>F b\/w1.heap.size<=b/\b<w1.heap.size+2) w ((w1.alloc (.cells #[.slice none 0 0,.int .i64 0] 176)).alloc (.cells #[strV name,a4S (some w1.heap.size)] 251)):=HC.out.trans (Chg.wide hE2 fun b hb=>hb.elim .inl fun h=>.inr h.1);have HN:=Lib.hid hnm;have HCH:=Lib.hid hch;clear hnm hch hD2 hmv hxb hxb2 hE1 hE2 hw2;unfold mvV y8 a4S strV y8 at HN;unfold strV at hlk;go_wp2_with fail
   refine HN.out.mono ?_;rintro e w3 ⟨rfl,F',hD3,hC3,hF3⟩;go_wp2;go_ret;refine⟨w1.heap.size,by rw[<-hids];exact hx1,F',.nilIface,rfl,?_,?_,HCH.out.trans hC3,fun b hb=>hF3 b (.inl hb)⟩
   ·unfold D.create;rw[if_neg hff,if_neg (by rw[hl];decide)];exact a3f _ _
   ·unfold D.create;rw[if_neg hff,if_neg (by rw[hl];decide)];exact hD3
end
section
open Go.RowKit Go.Lib Go.Maps Dk
theorem b3M(d:D)(name:Nm):(∃er,(d.find name).1=none/\(d.find name).2.1=er/\er≠.ok)\/∃x,(d.find name).1=some x/\(d.find name).2.1=.ok:=by
 unfold D.find;split
 ·exact .inl ⟨_,rfl,rfl,by simp⟩
 ·cases F5 d.now name with
  | none=>exact .inl ⟨_,rfl,rfl,by simp⟩
  | some x=>exact .inr ⟨x,rfl,rfl⟩
theorem a8e(d:D)(name:Nm)(h:(d.find name).1=none):∃k,(d.find name).2.1=.file k name:=by
 unfold D.find at h⊢;split
 ·exact⟨_,rfl⟩
 ·rename_i hf;rw[if_neg hf] at h
  cases ha:F5 d.now name with
  | none=>exact⟨_,rfl⟩
  | some x=>rw[ha] at h;cases h
theorem a3g(d:D)(name:Nm):(d.find name).2.2.moves=d.moves/\(d.find name).2.2.now=d.now/\(d.find name).2.2.ids=d.ids/\(d.find name).2.2.node=d.node/\(d.find name).2.2.safe=d.safe/\(d.find name).2.2.room=d.room:=by
 have e:=d.fails_now;have h:(d.find name).2.2=d.fails.2:=by
  unfold D.find;split
  ·rfl
  ·cases F5 d.now name<;>rfl
 rw[h];exact⟨e.2.2.1,e.1,e.2.2.2.2.1,e.2.2.2.2.2,e.2.1,e.2.2.2.1⟩
theorem b2s{d:D}{name:Nm}(h:(d.find name).1=none):d.sync name=(d.find name).2:=by
 unfold D.sync;revert h;rcases d.find name with⟨o,er,d'⟩;rintro rfl;rfl
theorem b5p{d:D}{name:Nm}{x:Nat}(h:(d.find name).1=some x):d.sync name=(.ok,(d.find name).2.2.setNode x {(d.find name).2.2.node x with safe:=((d.find name).2.2.node x).data.length}):=by
 unfold D.sync;revert h;rcases d.find name with⟨o,er,d'⟩;rintro rfl;rfl
theorem a5n{d:D}{name:Nm}(h:(d.find name).1=none):d.size name=(0,(d.find name).2):=by
 unfold D.size;revert h;rcases d.find name with⟨o,er,d'⟩;rintro rfl;rfl
theorem a7N{d:D}{name:Nm}{x:Nat}(h:(d.find name).1=some x):d.size name=(((((d.find name).2.2.node x).data.length:Nat):Int),Er.ok,(d.find name).2.2):=by
 unfold D.size;revert h;rcases d.find name with⟨o,er,d'⟩;rintro rfl;rfl
theorem a3h{d:D}{name:Nm}{at_ n:Int}(h:(d.find name).1=none):d.readAt name at_ n=([],(d.find name).2):=by
 unfold D.readAt;revert h;rcases d.find name with⟨o,er,d'⟩;rintro rfl;rfl
theorem a4l{d:D}{name:Nm}{at_ n:Int}{x:Nat}(h:(d.find name).1=some x):d.readAt name at_ n=(Dk.part ((d.find name).2.2.node x).data at_ n,.ok,(d.find name).2.2):=by
 unfold D.readAt;revert h;rcases d.find name with⟨o,er,d'⟩;rintro rfl;rfl
theorem a8f{d:D}{name:Nm}{b:List UInt8}(h:(d.find name).1=none):d.append name b=(d.find name).2:=by
 unfold D.append;revert h;rcases d.find name with⟨o,er,d'⟩;rintro rfl;rfl
theorem b6l{d:D}{name:Nm}{b:List UInt8}{x:Nat}(h:(d.find name).1=some x):d.append name b=if (d.find name).2.2.room - (d.find name).2.2.used<b.length then(.file 10 name,(d.find name).2.2) else(.ok,(d.find name).2.2.setNode x {(d.find name).2.2.node x with data:=((d.find name).2.2.node x).data++b}):=by
 unfold D.append;revert h;rcases d.find name with⟨o,er,d'⟩;rintro rfl;rfl
theorem D.find_wf_ok(d:D)(name:Nm)(x:Nat)(h:(d.find name).1=some x):(d.find name).2.1=.ok:=by
 rcases b3M d name with⟨er,h1,_⟩|⟨y,_,h2⟩
 ·rw[h1] at h;cases h
 ·exact h2
theorem D.find_mem(d:D)(name:Nm)(x:Nat)(h:(d.find name).1=some x)(hw:(d.find name).2.2.Wf):x∈(d.find name).2.2.ids:=by
 have hl:F5 d.now name=some x:=by
  unfold D.find at h;split at h
  ·cases h
  ·cases ha:F5 d.now name with
   | none=>rw[ha] at h;cases h
   | some y=>rw[ha] at h;exact h
 exact hw.now (name,x) (by rw[(a3g d name).2.1];exact a0N hl)
theorem a4Q.cases{F:Nat->Prop}{a:Nat}{d:D}{name:Nm}{w:World}{e:Ending}{w1:World}(h:a4Q F a d name w e w1):
 A8 w1 F a (d.find name).2.2/\Chg F F w w1/\
 ((∃b k,e=.returned (.tuple #[.pointer none,.iface 132 (.pointer (some ⟨b,0,none⟩))])/\(d.find name).1=none/\(d.find name).2.1=.file k name/\Held w1 F (fun W=>ErrAt W (.iface 132 (.pointer (some ⟨b,0,none⟩))) (d.find name).2.1)) ∨
  (∃x,e=.returned (.tuple #[.pointer (some ⟨x,0,none⟩),.nilIface])/\(d.find name).1=some x)):=by
 obtain⟨v,rfl,hv,hD,hC⟩:=h;refine⟨hD,hC,?_⟩
 cases hx:(d.find name).1 with
 | none=>
  obtain⟨k,hk⟩:=a8e d name hx;have:=hv.get;rw[hk] at this;obtain⟨b,rfl,hb⟩:=this
  exact .inl ⟨b,k,rfl,rfl,hk,hv⟩
 | some x=>
  have hok:=(D.find_wf_ok d name x hx);have:=hv.get;rw[hok] at this;have e:v=.nilIface:=this;subst e;exact .inr ⟨x,rfl,rfl⟩
theorem a0z.two(w:World)(n1 n2:Nm)(o1 o2:Option Nat):a0z (w.alloc (.cells #[strV n1,a4S o1,strV n2,a4S o2] 251)) w.heap.size [(n1,o1),(n2,o2)]:=o7.new _ _ rfl
end
section
open Go.RowKit Go.Lib Go.Maps Dk
section
variable{w w':World}{F:Nat->Prop}{a m1 m2:Nat}{mv:Value}{gs:List Nat}{dv:Nat->Value}{d:D}
theorem DiskRep.node'(h:DiskRep w F a m1 m2 mv gs dv d){x:Nat}(hx:x∈d.ids)(hk:∀b,b<w.heap.size->b≠x->(dv x).ownBlock≠some b->w'.heap[b]?=w.heap[b]?)(hs:w.heap.size<=w'.heap.size)
 {v:Value}{n:Nat}{l:List UInt8}(hbox:o7 w' x 176 #[v,.int .i64 n])(hown:OwnB w' 0 v l)(hat:∀b,v.ownBlock=some b->(dv x).ownBlock=some b\/w.heap.size<=b)(hnl:n<=l.length)(hfl:a18 w' v)
 {G:Nat->Prop}(hG:∀b,G b<->F b\/(w.heap.size<=b/\b<w'.heap.size)):
 DiskRep w' G a m1 m2 mv gs (fun i=>if i=x then v else dv i) (d.setNode x ⟨l,n⟩):=by
 have hlow:=h.low;have hxb:=(h.file x hx).1;have hxo:=(h.file x hx).2;have k2:∀b,F b->b≠x->(dv x).ownBlock≠some b->w'.heap[b]?=w.heap[b]?:=fun b hb=>hk b (hlow b hb);have key:∀y∈d.ids,y≠x->∀b,(dv y).ownBlock=some b->w'.heap[b]?=w.heap[b]?:=fun y hy hne b hb=>
  k2 b ((h.fx y hy).2 b hb) (fun e=>F9 (h.file y hy).2 hxb (by decide) (e▸hb)) (h.apart y hy x hx hne b hb)
 exact{
  box:=(k2 a h.fa (a3i h.box hxb (by decide)) (F9 hxo h.box (by decide))).trans h.box
  now:=h.now.block (k2 _ h.fm.1 (h.map_ne hxb).1 (Q5 hxo h.now))
  safe:=h.safe.block (k2 _ h.fm.2 (h.map_ne hxb).2 (Q5 hxo h.safe))
  ne:=h.ne
  rows:=⟨h.rows.1,fun i g l hg hl=>(k2 g (h.fg g (List.mem_of_getElem? hg)) (a3i (h.rows.2 i g l hg hl) hxb (by decide)) (F9 hxo (h.rows.2 i g l hg hl) (by decide))).trans (h.rows.2 i g l hg hl)⟩
  outer:=Dep.row h.outer w' fun b hb=>k2 b (h.fo b hb) (fun e=>F9 h.outer hxb (by decide) (e▸hb)) (a1l h.outer hxo (by decide) hb)
  outf:=h.outf.keep fun b hb=>k2 b (h.fo b hb) (fun e=>F9 h.outer hxb (by decide) (e▸hb)) (a1l h.outer hxo (by decide) hb)
  flat:=by
   intro y hy;by_cases e:y=x
   ·subst e;simp only[if_true];exact hfl
   ·simp only[if_neg e];exact(h.flat y hy).keep fun b hb=>key y hy e b hb
  file:=by
   intro y hy;by_cases e:y=x
   ·subst e;simp only[D.setNode,upd,if_true];exact⟨hbox,hown⟩
   ·simp only[D.setNode,upd,if_neg e];exact⟨(k2 y (h.fx y hy).1 e (F9 hxo (h.file y hy).1 (by decide))).trans (h.file y hy).1,Dep.row (h.file y hy).2 w' fun b hb=>key y hy e b hb⟩
  apart:=by
   intro y hy z hz hyz b hb;by_cases ey:y=x
   ·subst ey;have ez:z≠y:=fun e=>hyz e.symm;simp only[if_true] at hb;simp only[if_neg ez];rcases hat b hb with h1|h1
    ·exact h.apart y hy z hz hyz b h1
    ·intro h2;have:=hlow b ((h.fx z hz).2 b h2);omega
   ·simp only[if_neg ey] at hb;by_cases ez:z=x
    ·subst ez;simp only[if_true];intro h2;rcases hat b h2 with h1|h1
     ·exact h.apart y hy z hz hyz b hb h1
     ·have:=hlow b ((h.fx y hy).2 b hb);omega
    ·simp only[if_neg ez];exact h.apart y hy z hz hyz b hb
  fa:=(hG a).2 (.inl h.fa)
  fm:=⟨(hG _).2 (.inl h.fm.1),(hG _).2 (.inl h.fm.2)⟩
  fg:=fun g hg=>(hG g).2 (.inl (h.fg g hg))
  fo:=fun b hb=>(hG b).2 (.inl (h.fo b hb))
  fx:=by
   intro y hy;refine⟨(hG y).2 (.inl (h.fx y hy).1),fun b hb=>?_⟩;by_cases e:y=x
   ·subst e;simp only[if_true] at hb;rcases hat b hb with h1|h1
    ·exact(hG b).2 (.inl ((h.fx y hy).2 b h1))
    ·exact(hG b).2 (.inr ⟨h1,a3O hown hb⟩)
   ·simp only[if_neg e] at hb;exact(hG b).2 (.inl ((h.fx y hy).2 b hb))
  low:=fun b hb=>by
   rcases(hG b).1 hb with h1|h1
   ·have:=hlow b h1;omega
   ·exact h1.2
  wf:=D.setNode_wf h.wf hnl
  num:=h.num}
end
def c4x(F:Nat->Prop)(a:Nat)(r:Int×Er×D)(w:World)(e:Ending)(w':World):Prop:=
 ∃v,e=.returned (.tuple #[.int .i64 r.1,v])/\Held w' F (fun W=>ErrAt W v r.2.1)/\A8 w' F a r.2.2/\Chg F F w w'
theorem size_any(F:Nat->Prop)(a:Nat)(d:D)(name:Nm)(w:World)(h:A8 w F a d)(hn:name.length<=maxLen):
 Calls Tryz.prog 67 #[y8 a,strV name] w (c4x F a (d.size name) w):=by
 have hfind:=a5m F a d name w h hn;have HF:=Lib.hid hfind;clear hfind h;unfold y8 strV at *;go_enter Tryz.func67,Tryz.ntmps67
 go_wp2_with fail
 refine HF.out.mono ?_;intro e w1 hfi;obtain⟨hD,hC,hc⟩:=hfi.cases;have hxi:∀x,(d.find name).1=some x->x∈(d.find name).2.2.ids:=fun x hx=>D.find_mem d name x hx hD.wf;rcases hc with⟨b,k,rfl,hx,hk,hv⟩|⟨x,rfl,hx⟩
 ·have HD:=Lib.hid hD;have HC:=Lib.hid hC;clear hD hC hfi;have HV:=Lib.hid hv;clear hv;go_wp2;go_ret2
  refine⟨.iface 132 (.pointer (some ⟨b,0,none⟩)),?_,?_,?_,HC.out⟩
  ·rw[a5n hx];rfl
  ·rw[a5n hx];exact HV.out
  ·rw[a5n hx];exact HD.out
 ·have hxm:=hxi x hx;have HD:=Lib.hid hD;have HC:=Lib.hid hC;clear hC hfi;obtain⟨m1,m2,mv,gs,dv,hr⟩:=hD;obtain⟨hb,ho⟩:=hr.file x hxm;obtain⟨da,dc,hdv⟩:=ownsRow_form ho;rw[hdv] at hb;have c0:=hb.cell 0;clear hr ho hb hdv hxi;go_wp2;go_ret2
  refine⟨.nilIface,?_,?_,?_,HC.out⟩
  ·rw[a7N hx];rfl
  ·rw[a7N hx];exact a3f _ _
  ·rw[a7N hx];exact HD.out
theorem b8M(F:Nat->Prop)(a:Nat)(d:D)(name:Nm)(w:World)(h:A8 w F a d)(hn:name.length<=maxLen):
 Calls Tryz.prog 92 #[y8 a,strV name] w fun e w'=>c1k F a (d.sync name) w e w':=by
 have hfind:=a5m F a d name w h hn;have HF:=Lib.hid hfind;clear hfind h;unfold y8 strV at *;go_enter Tryz.func92,Tryz.ntmps92
 go_wp2_with fail
 refine HF.out.mono ?_;intro e w1 hfi;obtain⟨hD,hC,hc⟩:=hfi.cases;have hxi:∀x,(d.find name).1=some x->x∈(d.find name).2.2.ids:=fun x hx=>D.find_mem d name x hx hD.wf;rcases hc with⟨b,k,rfl,hx,hk,hv⟩|⟨x,rfl,hx⟩
 ·have HD:=Lib.hid hD;have HC:=Lib.hid hC;clear hD hC hfi;have HV:=Lib.hid hv;clear hv;go_wp2;go_ret;refine⟨F,.iface 132 (.pointer (some ⟨b,0,none⟩)),rfl,?_,?_,HC.out,fun b hb=>hb⟩
  ·rw[b2s hx];exact HV.out
  ·rw[b2s hx];exact HD.out
 ·have hxm:=hxi x hx;have HC:=Lib.hid hC;clear hC hfi;obtain⟨m1,m2,mv,gs,dv,hr⟩:=hD;obtain⟨hb,ho⟩:=hr.file x hxm;obtain⟨da,dc,hdv⟩:=ownsRow_form ho;have hbx:=F9 ho hb (by decide);rw[hdv] at hb;have c0:=hb.cell 0;have c1:=hb.cell 1;have f1:=hb.free 1;have HR:=Lib.hid hr;have HB:=Lib.hid hb;have HV:=Lib.hid hdv;have HO:=Lib.hid ho;have HX:=Lib.hid hbx;clear hr ho hb hdv hxi hbx;go_wp2;go_ret;have hO:=(Off.refl x w1).setCell 1 (.int .i64 ((((d.find name).2.2.node x).data.length:Nat):Int));have hR2:=HR.out.node' (w':=w1.setCell ⟨x,1,none⟩ (.int .i64 ((((d.find name).2.2.node x).data.length:Nat):Int))) hxm (fun b _ hne _=>hO.block b hne) (Nat.le_of_eq hO.size.symm) (HB.out.set 1 _) (l:=((d.find name).2.2.node x).data)
   (by rw[<-HV.out];exact Dep.row HO.out _ fun b hb=>hO.block b (fun e=>HX.out (e▸hb))) (fun b hb=>.inl (by rw[HV.out];exact hb)) (Nat.le_refl _)
   (by rw[<-HV.out];exact(HR.out.flat x hxm).keep fun b hb=>hO.block b (fun e=>HX.out (e▸hb))) (G:=F) (fun b=>⟨.inl,fun h=>h.elim id fun h=>by have:=hO.size;omega⟩)
  refine⟨F,.nilIface,rfl,?_,?_,HC.out.trans (Chg.off hO (HR.out.fx x hxm).1),fun b hb=>hb⟩
  ·rw[b5p hx];exact a3f _ _
  ·rw[b5p hx];exact⟨m1,m2,mv,gs,_,hR2⟩
def b5q(l:List UInt8)(w:World)(e:Ending)(w':World):Prop:=∃v,e=.returned v/\OwnB w' w.heap.size v l/\Ext w w'/\a18 w' v
theorem clone_any(v:Value)(l:List UInt8)(w:World)(h:Bytes w v l)(hl:l.length<=4611686018427387904)(hsz:l.length<=140737488355328):
 Calls Tryz.prog 88 #[v] w (b5q l w):=by
 obtain⟨i0,hi,hz0,hz1,hz2⟩:=info_parts a4m;have hb:=h;obtain⟨ad,cap,rfl,h1,h2,h3⟩:=h
 cases ad with
 | none=>
  have hl0:l=[]:=by
   have:=h2.2 rfl;exact List.eq_nil_of_length_eq_zero (by omega)
  subst hl0;obtain rfl:cap=0:=h2.2 rfl;clear hb;have hnil:(binOp BinOp.eql 25 (.slice none 0 0) (.slice none 0 0)).run Tryz.prog w=.ok (.bool true) w:=run_eql_slice_nil w 25 5 none 0 0 0 0 Tryz.underlying25;go_enter Tryz.func88,Tryz.ntmps88
  go_wp2;go_ret
  exact⟨_,rfl,⟨rfl,Or.inl ⟨rfl,rfl⟩⟩,Ext.refl w,a18.nil _ _ _⟩
 | some ad=>
  have HB:=Lib.hid hb;clear hb h3;have hnil:(binOp BinOp.eql 25 (.slice (some ad) l.length cap) (.slice none 0 0)).run Tryz.prog w=.ok (.bool false) w:=run_eql_slice_nil w 25 5 (some ad) _ _ 0 0 Tryz.underlying25;have hown0:(w.alloc (.cells #[] 5)).ownsRow w.heap.size 5 1 (.slice (some ⟨w.heap.size,0,none⟩) 0 0) 0 []:=
   ⟨rfl,Or.inr ⟨w.heap.size,0,#[],rfl,Nat.le_refl _,heap_alloc_new w _,Nat.le_refl _,by unfold maxLen;omega,rfl,rfl⟩⟩
  have byte0:∀x∈(Value.int .u8 0).cells,isByte x:=fun x hx=>⟨0,by simpa [Value.cells] using hx⟩;have hfl0:a5o isByte (w.alloc (.cells #[] 5)) (.slice (some ⟨w.heap.size,0,none⟩) 0 0):=by
   intro g c e fr hg hc x hx;obtain rfl:w.heap.size=g:=by simpa [Value.ownBlock] using hg
   rw[heap_alloc_new w _] at hc;injection hc with hc;injection hc with hc;subst hc;simp at hx
  go_enter Tryz.func88,Tryz.ntmps88
  go_wp2_with (at_builtin;go_must (refine a0e (F:=isByte) rfl _ _ 25 rfl w.heap.size 5 i0 (.int .u8 0) 1 1 Tryz.underlying25 hi hz0 hz1 hz2 rfl (by omega) (.slice (some ⟨w.heap.size,0,none⟩) 0 0) 0 [] rfl hown0 (.slice (some ad) l.length cap) l.length (l.map byteV) rfl (HB.out.ext ((Ext.refl w).new _)) (by simp) (a0O l) (by unfold maxLen;omega) (by omega) (by simp) byte0 (a8l l) hfl0 ?_);intro b6 c6 w6 hown6 hgrow6 hat6 hfl6)
  go_ret;have hEE:Ext w w6:=Below.grown ((Ext.refl w).new (.cells #[] 5)) hgrow6 (by simp) (fun k hk=>by simp[Value.ownBlock] at hk;omega);rw[Nat.zero_add] at hfl6;exact⟨_,rfl,by simpa [OwnB] using hown6,hEE,hfl6⟩
end
section
open Go.RowKit Go.Lib Go.Maps Dk
def b1a(F:Nat->Prop)(a:Nat)(r:List UInt8×Er×D)(w:World)(e:Ending)(w':World):Prop:=
 ∃u v,e=.returned (.tuple #[u,v])/\OwnB w' w.heap.size u r.1/\Held w' F (fun W=>ErrAt W v r.2.1)/\A8 w' F a r.2.2/\Chg F F w w'/\a18 w' u
theorem c1l(l:List UInt8)(at_ n:Int)(i j:Nat)(hi:(i:Int)=min (max at_ 0) l.length)(hj:(j:Int)=i+min (max n 0) (l.length - i)):Dk.part l at_ n=(l.take j).drop i/\i<=j/\j<=l.length:=by
 have h1:min at_.toNat l.length=i:=by omega
 have h2:min n.toNat (l.length - i)=j - i:=by omega
 refine⟨?_,by omega,by omega⟩;unfold Dk.part;rw[h1,h2,List.drop_take]
theorem a8g(F:Nat->Prop)(a:Nat)(d:D)(name:Nm)(at_ n:Int)(w:World)(h:A8 w F a d)(hn:name.length<=maxLen)(hat:-9223372036854775808<=at_/\at_<=9223372036854775807)(hn2:-9223372036854775808<=n/\n<=9223372036854775807)
 (hds:∀x∈d.ids,(d.node x).data.length<=140737488355328):
 Calls Tryz.prog 68 #[y8 a,strV name,.int .i64 at_,.int .i64 n] w (b1a F a (d.readAt name at_ n) w):=by
 have hfind:=a5m F a d name w h hn;have HF:=Lib.hid hfind;clear hfind h;unfold y8 strV at *;go_enter Tryz.func68,Tryz.ntmps68
 go_wp2_with fail
 refine HF.out.mono ?_;intro e w1 hfi;obtain⟨hD,hC,hc⟩:=hfi.cases;have hxi:∀x,(d.find name).1=some x->x∈(d.find name).2.2.ids:=fun x hx=>D.find_mem d name x hx hD.wf;rcases hc with⟨b,k,rfl,hx,hk,hv⟩|⟨x,rfl,hx⟩
 ·have HD:=Lib.hid hD;have HC:=Lib.hid hC;clear hD hC hfi;have HV:=Lib.hid hv;clear hv;go_wp2;go_ret2
  refine⟨.slice none 0 0,.iface 132 (.pointer (some ⟨b,0,none⟩)),rfl,?_,?_,?_,HC.out,a18.nil _ _ _⟩
  ·rw[a3h hx];exact⟨rfl,Or.inl ⟨rfl,rfl⟩⟩
  ·rw[a3h hx];exact HV.out
  ·rw[a3h hx];exact HD.out
 ·have hxm:=hxi x hx;have hdl:((d.find name).2.2.node x).data.length<=140737488355328:=by
   have e:=a3g d name;rw[e.2.2.2.1];exact hds x (by rw[<-e.2.2.1];exact hxm)
  have HD:=Lib.hid hD;have HC:=Lib.hid hC;clear hC hfi;obtain⟨m1,m2,mv,gs,dv,hr⟩:=hD;obtain⟨hb,ho⟩:=hr.file x hxm;obtain⟨da,dc,hdv⟩:=ownsRow_form ho;rw[hdv] at hb ho;have hbb:Bytes w1 (.slice da ((d.find name).2.2.node x).data.length dc) ((d.find name).2.2.node x).data:=OwnB.bytes ho;have hdc:((d.find name).2.2.node x).data.length<=dc/\dc<=9223372036854775807:=by
   obtain⟨a',c',e,h1,h2,_⟩:=hbb;injection e with e1 e2 e3;subst e3;exact⟨h1,h2.1⟩
  have c0:=hb.cell 0;have hlen:(d.find name).2.2.node x=⟨((d.find name).2.2.node x).data,((d.find name).2.2.node x).safe⟩:=rfl;have hlenI:((((d.find name).2.2.node x).data.length:Nat):Int)<=140737488355328:=by omega
  obtain⟨A,e1⟩:∃A:Int,(if at_<0 then(0:Int) else at_)=A:=⟨_,rfl⟩;have hA:A=max at_ 0:=by rw[<-e1];split<;>omega
  obtain⟨i,hi⟩:∃i:Nat,(i:Int)=min (max at_ 0) ((((d.find name).2.2.node x).data.length:Nat):Int):=⟨(min (max at_ 0) ((((d.find name).2.2.node x).data.length:Nat):Int)).toNat,by omega⟩;have e2:(if ((((d.find name).2.2.node x).data.length:Nat):Int)<A then((((d.find name).2.2.node x).data.length:Nat):Int) else A)=(i:Int):=by split<;>omega
  obtain⟨B,e3⟩:∃B:Int,(if n<0 then(0:Int) else n)=B:=⟨_,rfl⟩;have hB:B=max n 0:=by rw[<-e3];split<;>omega
  obtain⟨m,hm⟩:∃m:Nat,(m:Int)=min (max n 0) (((((d.find name).2.2.node x).data.length:Nat):Int) - i):=⟨(min (max n 0) (((((d.find name).2.2.node x).data.length:Nat):Int) - i)).toNat,by omega⟩;have e4:(if ((((d.find name).2.2.node x).data.length:Nat):Int) - i<B then((((d.find name).2.2.node x).data.length:Nat):Int) - i else B)=(m:Int):=by split<;>omega
  have hj:((i+m:Nat):Int)=i+min (max n 0) (((((d.find name).2.2.node x).data.length:Nat):Int) - i):=by omega
  have hil:i<=((d.find name).2.2.node x).data.length:=by omega
  obtain⟨hp,hij,hjl⟩:=c1l ((d.find name).2.2.node x).data at_ n i (i+m) hi hj;have hcl:=clone_any _ _ w1 (hbb.sliced i (i+m) hij hjl) (by rw[List.length_drop,List.length_take];omega) (by rw[List.length_drop,List.length_take];omega);have hA0:0<=A/\A<=9223372036854775807:=by omega
  have hB0:0<=B/\B<=9223372036854775807:=by omega
  have hcl2:∀u,u=.slice (if dc=i then da else da.map (·.add i)) m (dc - i)->Calls Tryz.prog 88 #[u] w1 (b5q ((((d.find name).2.2.node x).data.take (i+m)).drop i) w1):=by
   rintro _ rfl;have:=hcl;rwa [show i+m - i=m by omega] at this
  have HP:=Lib.hid hp;have HCL:=Lib.hid hcl2;clear hcl2;clear hr ho hb hdv hxi hbb hp hcl hlen hi hj hm hA hB hij;generalize hL:((d.find name).2.2.node x).data=L at *;go_wp2_with fail
  all_goals
   refine(HCL.out _ (by first|(rename_i h;rw[if_pos h,show dc - i=0 by omega])|(rename_i h;rw[if_neg h]))).mono ?_;rintro e w2 ⟨u,rfl,hu,hE,hfl⟩;have hsz:=HC.out.size;go_wp2;go_ret2
   refine⟨u,.nilIface,rfl,?_,?_,?_,HC.out.trans (Chg.ext hE),hfl⟩
   ·rw[a4l hx,hL,HP.out];exact O8 hu hsz
   ·rw[a4l hx];exact a3f _ _
   ·rw[a4l hx];exact HD.out.ext hE
end
end Go.Proofs.YtgpbhjjajpbeeaaGreatDoor
