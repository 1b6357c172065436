/- A part of what the last file proves. -/
import Derived.Test.YtgpbhjjajpbeeaaGreatDoorR20
set_option linter.all false
set_option maxRecDepth 100000
set_option maxHeartbeats 2000000
namespace Go.Proofs.YtgpbhjjajpbeeaaGreatDoor
section
open Go.RowKit Go.Lib Go.Maps Dk Pl
open Zn (tp Full)
open To (wpT wpT_lone H8 Iv a7h)
set_option linter.unusedSectionVars false
section
variable{F G:Nat->Prop}{w w':World}
theorem Chh.eq{τ τ':Nat->Question->Nat}{p p':Nat}(h:tp w' τ' p'=tp w τ p):Chh F w w':=by
 have h1:(tp w' τ' p').heap=(tp w τ p).heap:=congrArg World.heap h;have h2:(tp w' τ' p').os=(tp w τ p).os:=congrArg World.os h;have h3:(tp w' τ' p').output=(tp w τ p).output:=congrArg World.output h;replace h1:w'.heap=w.heap:=h1;exact⟨h2,h3,by rw[h1];exact Nat.le_refl _,fun b _ _=>by rw[h1]⟩
theorem Chh.box{n:Nat}{t:TypeId}{cs:Array Value}(c:Chh F w w')(h:o7 w n t cs)(hn:¬F n):o7 w' n t cs:=(c.block n h.lt hn).trans h
theorem Chh.disk{a:Nat}{d:D}(c:Chh G w w')(h:A8 w F a d)(hG:∀b,F b->¬G b):A8 w' F a d:=h.frame (fun b hb=>c.block b (h.low b hb) (hG b hb)) c.size
theorem Chh.row{B:Nat}{e:TypeId}{size:Nat}{v:Value}{n:Nat}{xs:List Value}(c:Chh F w w')(h:w.ownsRow B e size v n xs)(hn:∀b,v.ownBlock=some b->¬F b):w'.ownsRow B e size v n xs:=Dep.row h _ fun b hb=>c.block b (World.ownsRow.lt h b hb).2 (hn b hb)
end
structure Hd(F:Nat->Prop)(a:Nat)(d:D)(w:World)(T:Array Value)(w':World)(gen:Nat)(ids:List Int)(bss:List (List UInt8))(mb fb rb sx sb Cb:Nat)(ia:Option Addr)(ic:Nat)(vs:List Value)(d2:D):Prop where
 ko:d.kopen=(some (gen,ids,bss),.ok,d2)
 idsIn:b0z ids
 hs:T.size=118
 t4:T[4]?=some (.pointer (some ⟨mb,0,none⟩))
 t6:T[6]?=some (.pointer (some ⟨fb,0,none⟩))
 t11:T[11]?=some (.pointer (some ⟨sx,0,none⟩))
 disk:A8 w' F a d2
 chh:Chh F w w'
 hmb:o7 w' mb 125 #[.int .u64 gen,.slice ia ids.length ic]
 hids:OwnI w' w.heap.size (.slice ia ids.length ic) ids
 hfb:o7 w' fb 128 #[.slice (some ⟨rb,0,none⟩) ids.length ids.length]
 hrow:a7z w w' rb ids.length vs bss
 hbss:bss.length=ids.length
 hsx:o7 w' sx 32 #[.pointer (some ⟨sb,0,none⟩)]
 hsb:o7 w' sb 138 #[y8 a,.int .u64 gen,.slice ia ids.length ic,.slice (some ⟨Cb,0,none⟩) ids.length ids.length,.map none,.int .i64 0]
 hcb:w'.heap[Cb]?=some (.cells (madeCells #[.int .i64 0,.slice none 0 0] (ids.length*2)) 154)
 new:w.heap.size<=mb/\w.heap.size<=fb/\w.heap.size<=rb/\w.heap.size<=sx/\w.heap.size<=sb/\w.heap.size<=Cb
structure c4A(F:Nat->Prop)(a:Nat)(d:D)(w:World)(a':Act)(w':World)(y:Value):Prop where
 defers:a'.defers=[]
 t2:a'.tmps[2]?=some (.pointer none)
 t3:a'.tmps[3]?=some y
 ko:d.kopen.1=none/\d.kopen.2.1≠.ok
 disk:A8 w' F a d.kopen.2.2
 chh:Chh F w w'
 err:Held w' F (fun W=>ErrAt W y d.kopen.2.1)
set_option linter.unusedSectionVars false
variable[To.Lo]{Sh:Nat->Prop}{fn:FuncId}{Q:Exit->Act->World->(Nat->Prop)->Prop}{w:World}
theorem b3T{d:D}{gen:Nat}{ids:List Int}(h:d.readMan.1=some (gen,ids)):b0z ids:=by
 unfold D.readMan at h;obtain⟨⟨b,er,d1⟩,hr⟩:∃r,d.whole H9=r:=⟨_,rfl⟩;rw[hr] at h
 cases er with
 | ok=>
  dsimp only at h
  cases hm:Go.Proofs.YtgpbhjjajpbeeaaGreatDoor.readMan b with
  | none=>rw[hm] at h;cases h
  | some r=>
   rw[hm] at h;obtain⟨g,l⟩:=r;injection h with h;injection h with h1 h2;subst h1 h2
   exact b2x hm
 | num n=>cases h
 | file n m=>cases h
omit[To.Lo] in
theorem a1c{d:D}(h:d.readMan.1=none):d.kopen=(none,d.readMan.2.1,d.readMan.2.2):=by
 unfold D.kopen;obtain⟨⟨o,er,d1⟩,hr⟩:∃r,d.readMan=r:=⟨_,rfl⟩;rw[hr] at h⊢;dsimp only at h;subst h;rfl
omit[To.Lo] in
theorem a1S{d:D}{gen:Nat}{ids:List Int}(h:d.readMan.1=some (gen,ids))(he:(D.opensAcc ids d.readMan.2.2 []).2.1≠.ok):d.kopen=(none,(D.opensAcc ids d.readMan.2.2 []).2.1,(D.opensAcc ids d.readMan.2.2 []).2.2):=by
 unfold D.kopen;obtain⟨⟨o,er,d1⟩,hr⟩:∃r,d.readMan=r:=⟨_,rfl⟩;rw[hr] at h he⊢;dsimp only at h he⊢;subst h;dsimp only;obtain⟨⟨bss,e2,d2⟩,hr2⟩:∃r,D.opensAcc ids d1 []=r:=⟨_,rfl⟩;rw[hr2] at he⊢;dsimp only at he⊢
 cases e2 with
 | ok=>exact absurd rfl he
 | num n=>rfl
 | file n m=>rfl
omit[To.Lo] in
theorem a8m{d:D}{gen:Nat}{ids:List Int}(h:d.readMan.1=some (gen,ids))(he:(D.opensAcc ids d.readMan.2.2 []).2.1=.ok):d.kopen=(some (gen,ids,(D.opensAcc ids d.readMan.2.2 []).1),.ok,(D.opensAcc ids d.readMan.2.2 []).2.2):=by
 unfold D.kopen;obtain⟨⟨o,er,d1⟩,hr⟩:∃r,d.readMan=r:=⟨_,rfl⟩;rw[hr] at h he⊢;dsimp only at h he⊢;subst h;dsimp only;obtain⟨⟨bss,e2,d2⟩,hr2⟩:∃r,D.opensAcc ids d1 []=r:=⟨_,rfl⟩;rw[hr2] at he⊢;dsimp only at he⊢;subst he;rfl
theorem b6B{F:Nat->Prop}{a:Nat}{d:D}{T0:Array Value}(hI:Iv zone Sh Full ⟨T0,[]⟩ w)(hs:T0.size=118)(h0:T0[0]?=some (y8 a))(hD:A8 w F a d)(hds:∀x∈d.ids,(d.node x).data.length<=35184372088832)(hl:Held w F LaidP)
 (herr:∀a' w' y,c4A F a d w a' w' y->Iv zone Sh Full a' w'->Q .ret a' w' Sh)
 (hok:∀T w' gen ids bss mb fb rb sx sb Cb ia ic vs d2,Hd F a d w T w' gen ids bss mb fb rb sx sb Cb ia ic vs d2->Iv zone Sh Full ⟨T,[]⟩ w'->wpT Tryz.prog fn (I5 6) Q ⟨T,[]⟩ w' Sh):wpT Tryz.prog fn (I5 0) Q ⟨T0,[]⟩ w Sh:=by
 have mem:∀{c:Code},c∈V9->Zn.CodeP zone c:=b0f;rw[b6u];refine H8 (piece (fun w=>QO0 a w) hI (mem (by simp[V9])) (Zn.codeU_full _) (fun τ p=>t0 T0 hs h0 _) ?_);rintro e ⟨T1,ds1⟩ w1 τ p τ' p' q;cases e<;>first|exact q.elim|skip
 obtain⟨q1,q2,q3,q4,q5,q6⟩:=q;dsimp only at q1 q2 q3 q4 q5;subst q1;refine⟨.inl rfl,fun hI1 _=>?_⟩;have c1:Chh (fun _=>False) w w1:=.eq q6;have hD1:=c1.disk hD fun _ _ h=>h;clear q6;show wpT _ _ _ _ _ _ _;rw[b6v];refine H8 (piece (fun w=>QO1 F a d w) hI1 (mem (by simp[V9])) (Zn.codeU_full _) (fun τ p=>t1 T1 q2 q3 q4 q5 F d _ hD1.to_tp hds) ?_);rintro e ⟨T2,ds2⟩ w2 τ p τ' p' q;cases e<;>first|exact q.elim|skip
 obtain⟨r1,r2,r3,r4,r5,mb,g,v,y,r6,r7,r8,r9,r10,r11,r12⟩:=q;dsimp only at r1 r2 r3 r4 r5 r6 r7;subst r1;refine⟨.inl rfl,fun hI2 _=>?_⟩;have hD2:A8 w2 F a d.readMan.2.2:=r10.of_tp;have c2:Chh F w w2:=(c1.less (fun _ _ h=>h.elim)).trans (.of r11);have hmb:o7 w2 mb 125 #[.int .u64 g,v]:=r9;have hmbn:w.heap.size<=mb:=Nat.le_trans c1.size r8;show wpT _ _ _ _ _ _ _;rw[b6w];rcases r12 with⟨e1,e2,e3⟩|⟨gen,ids,e1,e2,rfl,rfl,e5⟩
 ·have hE:Held w2 F (fun W=>ErrAt W y d.readMan.2.1):=e3;obtain⟨t,v',rfl⟩:=err_iface hE.get e2;refine H8 (piece (fun w=>c4z (.iface t v') w) hI2 (mem (by simp[V9])) (Zn.codeU_full _) (fun τ p=>t2e T2 r2 r7 _) ?_);rintro e a3 w3 τ p τ' p' q;cases e<;>first|exact q.elim|skip
  obtain⟨s1,s2,s3,s4⟩:=q;refine⟨.inr rfl,fun hI3 _=>herr a3 w3 _ ⟨s1,s2,s3,?_,?_,?_,?_⟩ hI3⟩
  ·rw[a1c e1];exact⟨rfl,e2⟩
  ·rw[a1c e1];exact(Chh.eq s4:Chh (fun _=>False) w2 w3).disk hD2 fun _ _ h=>h
  ·exact c2.trans (.eq s4)
  ·rw[a1c e1];exact hE.chh (.eq s4) hD2.low
 ·have hin:=b3T e1;have hvo:OwnI w2 w.heap.size v ids:=O8 e5 c1.size;refine H8 (piece (fun w=>QO2 a mb w) hI2 (mem (by simp[V9])) (Zn.codeU_full _) (fun τ p=>t2 T2 r2 r3 r6 r7 _) ?_);rintro e ⟨T3,ds3⟩ w3 τ p τ' p' q;cases e<;>first|exact q.elim|skip
  obtain⟨s1,s2,s3,s4,s5⟩:=q;dsimp only at s1 s2 s3 s4;subst s1;refine⟨.inl rfl,fun hI3 _=>?_⟩;have c3':Chh (fun _=>False) w2 w3:=.eq s5;have c3:Chh F w w3:=c2.trans (.eq s5);have hD3:=c3'.disk hD2 fun _ _ h=>h;have hmb3:=c3'.box hmb fun h=>h;have hvo3:OwnI w3 w.heap.size v ids:=c3'.row hvo fun _ _ h=>h;clear s5 hD2 hmb hvo;show wpT _ _ _ _ _ _ _;rw[b6x];refine H8 (piece (fun w=>QO3 a mb ids.length w) hI3 (mem (by simp[V9])) (Zn.codeU_full _) (fun τ p=>t3 T3 s2 s3 s4 gen v ids _ hmb3 ⟨_,hvo3⟩ hin.1) ?_);rintro e ⟨T4,ds4⟩ w4 τ p τ' p' q;cases e<;>first|exact q.elim|skip
  obtain⟨u1,u2,u3,u4,u5,fb,rb,u6,u7,u8,u9,u10⟩:=q;dsimp only at u1 u2 u3 u4 u6;subst u1;refine⟨.inl rfl,fun hI4 _=>?_⟩;have c4':Chh (fun _=>False) w3 w4:=.ext u5;have c4:Chh F w w4:=c3.trans (.ext u5);have hD4:=c4'.disk hD3 fun _ _ h=>h;have hmb4:=c4'.box hmb3 fun h=>h;have hvo4:OwnI w4 w.heap.size v ids:=c4'.row hvo3 fun _ _ h=>h;have hfb4:o7 w4 fb 128 #[.slice (some ⟨rb,0,none⟩) ids.length ids.length]:=u9;have hrb4:w4.heap[rb]?=some (.cells (List.replicate ids.length (Value.slice none 0 0)).toArray 25):=u10;have u7':w3.heap.size<=fb:=u7;have u8':w3.heap.size<=rb:=u8;have hlow:=hD.low;have hmbl:mb<w3.heap.size:=hmb3.lt;have hrF:¬F rb:=fun h=>by have:=hlow rb h;have:=c3.size;omega
  have hne:fb≠rb:=by
   rintro rfl;unfold o7 at hfb4;rw[hrb4] at hfb4;injection hfb4 with h;injection h with h1 h2 h3;revert h2;decide
  obtain⟨ia,ic,rfl⟩:=ownsRow_form hvo4;have hvl:∀b,(Value.slice ia ids.length ic).ownBlock=some b->w.heap.size<=b/\b<w3.heap.size:=fun b hb=>World.ownsRow.lt hvo3 b hb;have hH4:Held w4 (fun b=>F b\/b=rb) (fun W=>(o7 W mb 125 #[.int .u64 gen,.slice ia ids.length ic]/\Ints W (.slice ia ids.length ic) ids)/\o7 W fb 128 #[.slice (some ⟨rb,0,none⟩) ids.length ids.length]/\LaidP W):=by
   refine Held.and (Held.and (Held.box hmb4 ?_) ?_) (Held.and (Held.box hfb4 ?_) ?_)
   ·rintro(h|h)
    ·have:=hlow mb h;omega
    ·omega
   ·refine(Held.of (Dep.row hvo4) fun b hb=>⟨(World.ownsRow.lt hvo4 b hb).2,?_⟩).mono fun W hW=>OwnI.ints hW;have:=hvl b hb;rintro(h|h)
    ·have:=hlow b h;omega
    ·omega
   ·rintro(h|h)
    ·have:=hlow fb h;have:=c3.size;omega
    ·exact hne h
   ·obtain⟨S,h1,h2⟩:=hl;refine⟨S,fun b hb=>⟨Nat.lt_of_lt_of_le (h1 b hb).1 c4.size,?_⟩,fun w'' hw=>h2 w'' fun b hb=>(hw b hb).trans (c4.block b (h1 b hb).1 (h1 b hb).2)⟩;rintro(h|h)
    ·exact(h1 b hb).2 h
    ·have:=(h1 b hb).1;have:=c3.size;omega
  have hsm:=D.readMan_same d;have hds4:∀x∈d.readMan.2.2.ids,(d.readMan.2.2.node x).data.length<=35184372088832:=fun x hx=>by rw[hsm.node];rw[hsm.ids] at hx;exact hds x hx
  clear u5 u7 u8 u9 u10 hmb3 hvo3 hD3;show wpT _ _ _ _ _ _ _;rw[b6y];refine H8 (piece (fun w=>QO4 F a mb fb rb d.readMan.2.2 ids w) hI4 (mem (by simp[V9])) (Zn.codeU_full _) (fun τ p=>t4 T4 u2 u3 u4 u6 F gen ia ic d.readMan.2.2 ids _ hD4.to_tp hds4 hin hH4 hrb4 hrF) ?_);rintro e ⟨T5,ds5⟩ w5 τ p τ' p' q;have hF':∀b,b<w.heap.size->(F b\/b=rb)->F b:=fun b hb h=>h.elim id fun h=>by have:=c3.size;omega
  have c45:∀{τ τ' p p'},Chg (fun b=>F b\/b=rb) (fun b=>F b\/b=rb) (tp w4 τ p) (tp w5 τ' p')->Chh F w w5:=fun h=>by
   have h1:Chh (fun b=>F b\/b=rb) w4 w5:=.of h;exact⟨h1.os.trans c4.os,h1.output.trans c4.output,Nat.le_trans c4.size h1.size,fun b hb hF=>(h1.block b (Nat.lt_of_lt_of_le hb c4.size) fun h=>hF (hF' b hb h)).trans (c4.block b hb hF)⟩
  cases e<;>first|exact q.elim|skip
  ·obtain⟨v1,v2,v3,v4,v5,v6,v7,v8,vs,v9,v10⟩:=q;dsimp only at v1 v2 v3 v4 v5;subst v1;have hD5:A8 w5 F a (D.opensAcc ids d.readMan.2.2 []).2.2:=v7.of_tp;have c5:Chh F w w5:=c45 v8;have c45':Chh (fun b=>F b\/b=rb) w4 w5:=.of v8;have hn1:∀b,w.heap.size<=b->¬F b:=fun b hb h=>by have:=hlow b h;omega
   have hmb5:=c45'.box hmb4 fun h=>h.elim (hn1 mb hmbn) fun h=>by omega
   have hfb5:=c45'.box hfb4 fun h=>h.elim (hn1 fb (Nat.le_trans c3.size u7')) hne;have hvo5:OwnI w5 w.heap.size (.slice ia ids.length ic) ids:=c45'.row hvo4 fun b hb=>by
    have:=hvl b hb;exact fun h=>h.elim (hn1 b this.1) fun h=>by omega
   have hrow5:a7z w4 w5 rb ids.length vs (D.opensAcc ids d.readMan.2.2 []).1:=⟨v9.len,v9.le,v9.row,v9.at_⟩;have hsz45:w4.heap.size<=w5.heap.size:=c45'.size;clear v8 v9 v7;refine⟨.inl rfl,fun hI5 _=>?_⟩;show wpT _ _ _ _ _ _ _;rw[b6z];refine H8 (piece (fun w=>QO5 a mb fb ids.length gen (.slice ia ids.length ic) w) hI5 (mem (by simp[V9])) (Zn.codeU_full _) (fun τ p=>t5 T5 v2 v3 v4 v5 gen ia ids.length ic _ hmb5 hin.1) ?_);rintro e ⟨T6,ds6⟩ w6 τ p τ' p' q;cases e<;>first|exact q.elim|skip
   obtain⟨x1,x2,x3,x4,x5,sx,sb,Cb,x6,x7,x8,x9,-,-,-,x10,x11,x12⟩:=q;dsimp only at x1 x2 x3 x4 x6;subst x1;replace x7:w5.heap.size<=sx:=x7;replace x8:w5.heap.size<=sb:=x8;replace x9:w5.heap.size<=Cb:=x9;have c56:Chh (fun _=>False) w5 w6:=.ext x5;refine⟨.inl rfl,fun hI6 _=>hok T6 w6 gen ids (D.opensAcc ids d.readMan.2.2 []).1 mb fb rb sx sb Cb ia ic vs (D.opensAcc ids d.readMan.2.2 []).2.2 ?_ hI6⟩;exact{
    ko:=a8m e1 v6
    idsIn:=hin
    hs:=x2
    t4:=x3
    t6:=x4
    t11:=x6
    disk:=c56.disk hD5 fun _ _ h=>h
    chh:=c5.trans (.ext x5)
    hmb:=c56.box hmb5 fun h=>h
    hids:=c56.row hvo5 fun _ _ h=>h
    hfb:=c56.box hfb5 fun h=>h
    hrow:=by
     have k:a7z w w5 rb ids.length vs (D.opensAcc ids d.readMan.2.2 []).1:=⟨hrow5.len,hrow5.le,hrow5.row,fun j u b hu hb=>⟨O8 (hrow5.at_ j u b hu hb).1 c4.size,(hrow5.at_ j u b hu hb).2⟩⟩;exact k.keep (c56.block rb (lt_of_block hrow5.row) fun h=>h) fun b _ hb _=>c56.block b hb fun h=>h
    hbss:=v10
    hsx:=x10
    hsb:=x11
    hcb:=x12
    new:=by have:=c3.size;have:=c5.size;exact⟨hmbn,by omega,by omega,by omega,by omega,by omega⟩}
  ·obtain⟨v1,y,v2,v3,v4,v5,v6,v7⟩:=q;refine⟨.inr rfl,fun hI5 _=>herr ⟨T5,ds5⟩ w5 y ⟨v1,v2,v3,?_,?_,c45 v6,?_⟩ hI5⟩
   ·rw[a1S e1 v4];exact⟨rfl,v4⟩
   ·rw[a1S e1 v4];exact v5.of_tp
   ·rw[a1S e1 v4];exact v7
end
section
open Go.RowKit Go.Lib Go.Maps Dk Pl
open Zn (tp Full WPs)
open To (wpT wpT_lone H8 Iv a7h)
section
theorem b6C{d:D}{M:Nat}(hw:d.Wf)(h:∀x∈d.ids,(d.node x).data.length<=M)(n:Nm):(d.whole n).1.length<=M:=by
 have key:∀(D':D),a2p d D'->∀i k,(D'.readAt n i k).1.length<=M:=by
  intro D' hs i k;unfold D.readAt D.find;split
  ·exact Nat.zero_le _
  ·rename_i o e d1 he;split at he
   ·cases he
   ·cases hl:F5 D'.now n with
    | none=>rw[hl] at he;cases he
    | some x=>
     rw[hl] at he;injection he with h1 h2;injection h1 with h1;injection h2 with h2 h3;subst h1 h3;have hx:x∈d.ids:=by
      have:=a0N hl;rw[hs.now] at this;exact hw.now _ this
     have hf:=D'.fails_same;have hb:((D'.fails.2).node x).data.length<=M:=by rw[hf.node,hs.node];exact h x hx
     refine Nat.le_trans ?_ hb;show(Dk.part _ _ _).length<=_;unfold Dk.part;rw[List.length_take,List.length_drop];omega
 unfold D.whole;obtain⟨⟨k,e,d1⟩,hr⟩:∃r,d.size n=r:=⟨_,rfl⟩;have hs:=d.size_same n;rw[hr] at hs⊢
 cases e with
 | ok=>exact key d1 hs 0 k
 | num n=>exact Nat.zero_le _
 | file n m=>exact Nat.zero_le _
theorem b6D{M:Nat}:∀(ids:List Int){d:D}{acc:List (List UInt8)},d.Wf->(∀x∈d.ids,(d.node x).data.length<=M)->(∀l∈acc,l.length<=M)->∀l∈(D.opensAcc ids d acc).1,l.length<=M:=by
 intro ids
 induction ids with
 | nil=>exact fun _ _ h=>h
 | cons id ids ih=>
  intro d acc hw hd ha;have hl:=b6C hw hd (G5 J8 id.toNat);have hs:=d.whole_same (G5 J8 id.toNat);obtain⟨⟨b,e,d1⟩,hr⟩:∃r,d.whole (G5 J8 id.toNat)=r:=⟨_,rfl⟩;rw[hr] at hl hs;by_cases he:e=.ok
  ·subst he;rw[a3P hr];refine ih ⟨?_,?_,?_,?_,?_⟩ (fun x hx=>?_) fun l h=>?_
   ·intro p hp;have e1:d1.now=d.now:=hs.now;have e2:d1.ids=d.ids:=hs.ids;rw[e2];rw[e1] at hp;exact hw.now p hp
   ·intro p hp;have e1:d1.safe=d.safe:=hs.safe;have e2:d1.ids=d.ids:=hs.ids;rw[e2];rw[e1] at hp;exact hw.safe p hp
   ·intro p hp;have e1:d1.moves=d.moves:=hs.moves;have e2:d1.ids=d.ids:=hs.ids;rw[e2];rw[e1] at hp;exact hw.moves p hp
   ·intro p hp;have e1:d1.node=d.node:=hs.node;have e2:d1.ids=d.ids:=hs.ids;rw[e1];rw[e2] at hp;exact hw.part p hp
   ·have e2:d1.ids=d.ids:=hs.ids;rw[e2];exact hw.ids
   ·have e1:d1.node=d.node:=hs.node;have e2:d1.ids=d.ids:=hs.ids;rw[e1];rw[e2] at hx;exact hd x hx
   ·rcases List.mem_append.1 h with h|h
    ·exact ha l h
    ·obtain rfl:=List.mem_singleton.1 h;exact hl
  ·rw[a1I hr he];exact ha
theorem a2q{w:World}{b c:Nat}{x y:Array Value}{e f:TypeId}{p q:Nat×Nat}(h:w.heap[b]?=some (.cells x e p))(h':w.heap[c]?=some (.cells y f q))(hne:e≠f):b≠c:=by
 rintro rfl;rw[h] at h';injection h' with h';injection h' with h1 h2 h3;exact hne h2
def c5p(fb rb:Nat)(vs:List Value)(b:Nat):Prop:=b=fb\/b=rb\/∃(j:Nat)(u:Value),vs[j]?=some u/\u.ownBlock=some b
theorem Hd.ph{F Sh:Nat->Prop}{a:Nat}{d d2:D}{w w':World}{T:Array Value}{gen:Nat}{ids:List Int}{bss:List (List UInt8)}{mb fb rb sx sb Cb:Nat}{ia:Option Addr}{ic:Nat}{vs:List Value}(h:Hd F a d w T w' gen ids bss mb fb rb sx sb Cb ia ic vs d2)
 (W:WPs zone Sh w')(hSh:∀b,Sh b->b<w.heap.size)(hgl:Tryz.prog.globals.size<=w.heap.size)(hlen:∀l∈bss,l.length<=1099511627776):
 ∃g c2,Ph w' Sh Cb fb rb ids.length ids.length mb sx sb g ids.length c2 ids bss (c5p fb rb vs):=by
 obtain⟨n1,n2,n3,n4,n5,n6⟩:=h.new;have ns:∀b,w.heap.size<=b->¬Sh b:=fun b hb hs=>by have:=hSh b hs;omega
 have hC:=h.hcb;have hmb:w'.heap[mb]?=some (.cells #[.int .u64 gen,.slice ia ids.length ic] 125):=h.hmb;have hfb:w'.heap[fb]?=some (.cells #[.slice (some ⟨rb,0,none⟩) ids.length ids.length] 128):=h.hfb;have hsx:w'.heap[sx]?=some (.cells #[.pointer (some ⟨sb,0,none⟩)] 32):=h.hsx;have hsb:w'.heap[sb]?=some (.cells #[y8 a,.int .u64 gen,.slice ia ids.length ic,.slice (some ⟨Cb,0,none⟩) ids.length ids.length,.map none,.int .i64 0] 138):=h.hsb;have hrb:=h.hrow.row;have hn:=h.idsIn.1;have hvb:∀(j:Nat)(u:Value),vs[j]?=some u->∃b,bss[j]?=some b:=fun j u hu=>by
  have:=(List.getElem?_eq_some_iff.1 hu).1;rw[h.hrow.len] at this;exact⟨_,List.getElem?_eq_getElem this⟩
 have hic:∃g c2,0<ids.length->ids.length<=c2/\g<w'.heap.size/\g≠Cb/\¬Sh g/\(.slice ia ids.length ic:Value)=.slice (some ⟨g,0,none⟩) ids.length c2/\∀i,i<ids.length->w'.cell? ⟨g,i,none⟩=some (.int .i64 (ids.getD i 0)):=by
  rcases h.hids.2 with⟨_,h0⟩|⟨g,cap,cur,he,hg,hb,h1,h2,h3,h4⟩
  ·exact⟨0,0,fun h=>by omega⟩
  ·refine⟨g,cap,fun _=>⟨h1,Bi.lt_of_some hb,a2q hb hC (by decide),ns g hg,he,fun i hi=>?_⟩⟩;have e1:(ids.map (Value.int .i64))[i]?=some (.int .i64 (ids.getD i 0)):=by
    rw[List.getElem?_map,List.getElem?_eq_getElem hi];simp[List.getD,List.getElem?_eq_getElem hi]
   rw[<-h4,List.getElem?_take,if_pos (by omega),Array.getElem?_toList] at e1;simp[World.cell?,hb,e1]
 obtain⟨g,c2,hic⟩:=hic;refine⟨g,c2,W,Nat.le_trans hgl h.chh.size,⟨by omega,Nat.le_refl _,Nat.le_refl _,fun h=>(hic h).1⟩,hfb,.inl rfl,?_,?_,?_,?_,?_,?_,?_⟩
 ·rintro b (rfl|rfl|⟨j,u,hu,hb⟩)
  ·refine⟨by omega,Bi.lt_of_some hfb,a2q hfb hC (by decide),ns _ n2,_,_,_,hfb,fun v hv=>?_⟩;obtain rfl:v=.slice (some ⟨rb,0,none⟩) ids.length ids.length:=by simpa using hv
   exact .slice _ _ _ (.inr (.inl rfl))
  ·refine⟨by omega,Bi.lt_of_some hrb,a2q hrb hC (by decide),ns _ n3,_,_,_,hrb,fun v hv=>?_⟩;replace hv:v∈vs++List.replicate (ids.length - bss.length) (Value.slice none 0 0):=by simpa using hv
   rcases List.mem_append.1 hv with hv|hv
   ·obtain⟨j,hj⟩:=List.getElem?_of_mem hv;obtain⟨l,hl⟩:=hvb j v hj;obtain⟨o1,o2⟩:=h.hrow.at_ j v l hj hl;rcases o1.2 with⟨rfl,_⟩|⟨g',cap,cur,rfl,_⟩
    ·exact .snil _ _
    ·exact .slice _ _ _ (.inr (.inr ⟨j,_,hj,rfl⟩))
   ·rw[List.eq_of_mem_replicate hv];exact .snil _ _
  ·obtain⟨l,hl⟩:=hvb j u hu;obtain⟨o1,o2⟩:=h.hrow.at_ j u l hu hl;rcases o1.2 with⟨rfl,_⟩|⟨g',cap,cur,rfl,hg,hcells,_⟩
   ·cases hb
   ·obtain rfl:g'=b:=by simpa [Value.ownBlock] using hb
    refine⟨by omega,Bi.lt_of_some hcells,a2q hcells hC (by decide),ns _ hg,_,_,_,hcells,fun v hv=>?_⟩;obtain⟨k,rfl⟩:=o2 _ _ _ _ rfl hcells v hv;exact .int _ _
 ·intro i hi;have hb:i<bss.length:=by rw[h.hbss];exact hi
  have hv:i<vs.length:=by rw[h.hrow.len];exact hb
  obtain⟨o1,-⟩:=h.hrow.at_ i vs[i] bss[i] (List.getElem?_eq_getElem hv) (List.getElem?_eq_getElem hb);refine⟨vs[i],?_,?_,?_⟩
  ·simp[World.cell?,hrb,List.getElem?_append_left hv,hv]
  ·simpa [List.getD,List.getElem?_eq_getElem hb] using o1.bytes
  ·simpa [List.getD,List.getElem?_eq_getElem hb] using hlen _ (List.getElem_mem hb)
 ·refine⟨Bi.lt_of_some hmb,a2q hmb hC (by decide),ns _ n1,fun h0=>?_⟩;rw[<-(hic h0).2.2.2.2.1];simp[World.cell?,hmb]
 ·exact⟨Bi.lt_of_some hsx,a2q hsx hC (by decide),ns _ n4,by simp[World.cell?,hsx]⟩
 ·exact⟨Bi.lt_of_some hsb,a2q hsb hC (by decide),ns _ n5,by simp[World.cell?,hsb]⟩
 ·exact fun h0=>let ⟨_,a2,a3,a4,_,a6⟩:=hic h0;⟨a2,a3,a4,a6⟩
 ·refine⟨ns _ n6,_,hC,?_⟩;simp[madeCells];omega
end
end
section
open Go.RowKit Go.Lib Go.Maps Dk Pl
open Go.Conc Go.Mw
open Zn (tp Full WPs VP Zf Le)
open To (wpT wpT_lone H8 Iv a7h To at_)
structure Jn(w:World)(Sh:Nat->Prop)(Cb n:Nat)(ids:List Int)(bss:List (List UInt8))(T:Array Value)(T':Array Value)(w':World)(Sh':Nat->Prop):Prop where
 hs:T'.size=118
 t11:T'[11]?=T[11]?
 t12:T'[12]?=some (.pointer (some ⟨w.heap.size,0,none⟩))
 al:∃v:Int,w'.heap[w.heap.size]?=some (.cells #[.int .i64 v] 143)
 segs:a2A w' Cb n ids bss
 segsNew:∀i u g,i<n->w'.cell? ⟨Cb,2*i+1,none⟩=some u->u.ownBlock=some g->w.heap.size<=g
 old:∀e,e<w.heap.size->e≠Cb->w'.heap[e]?=w.heap[e]?
 size:w.heap.size<=w'.heap.size
 os:w'.os=w.os
 output:w'.output=w.output
 shUp:∀b,Sh b->Sh' b
 shOld:∀b,b<w.heap.size->Sh' b->Sh b
def ShJ(w w':World)(Sh:Nat->Prop)(n:Nat)(O:Nat->Nat->Prop)(bx:Nat->Nat)(b:Nat):Prop:=Sh b\/(w.heap.size+1<=b/\b<w'.heap.size/\¬∃i,i<n/\(O i b\/b=bx i))
theorem b81{w w':World}{Sh:Nat->Prop}{Cb n:Nat}{ids:List Int}{bss:List (List UInt8)}{O:Nat->Nat->Prop}{bx:Nat->Nat}(W:WPs zone Sh w)(hC:¬Sh Cb)(hCl:Cb<w.heap.size)
 (hel:∀e,e<w.heap.size->e≠Cb->w'.heap[e]?=w.heap[e]?)(hR:∀i,i<n->a5p w Sh Cb ids bss i (bx i) (O i) w')(hO:∀i b,O i b->w.heap.size+2<=b/\b<w'.heap.size)
 (hal:∃v:Int,w'.heap[w.heap.size]?=some (.cells #[.int .i64 v] 143))(hcb:∃cs:Array Value,w'.heap[Cb]?=some (.cells cs 154)/\cs.size=2*n)(hsz:w.heap.size+2<=w'.heap.size):WPs zone (ShJ w w' Sh n O bx) w':=by
 have old:∀b,b<w.heap.size->ShJ w w' Sh n O bx b->Sh b:=fun b hb h=>h.elim id fun h=>by omega
 have hle:Le (Zf zone Sh w.heap.size) (Zf zone (ShJ w w' Sh n O bx) w'.heap.size):=⟨rfl,rfl,rfl,fun b h=>⟨Nat.lt_of_lt_of_le h.1 (by omega),fun hs=>h.2 (old b h.1 hs)⟩⟩;have own:∀i b,i<n->(O i b\/b=bx i)->b<w'.heap.size/\¬ShJ w w' Sh n O bx b:=fun i b hi h=>by
  have hb:w.heap.size+2<=b/\b<w'.heap.size:=h.elim (hO i b) fun e=>by
   obtain⟨-,-,-,h4,h5⟩:=hR i hi;rw[e];exact⟨h4,Bi.lt_of_some h5⟩
  refine⟨hb.2,?_⟩;rintro(hs|⟨-,-,h3⟩)
  ·have:=W.sh b hs;omega
  ·exact h3 ⟨i,hi,h⟩
 refine⟨fun b o hb hs ho=>?_,fun b h=>?_,fun b h=>?_⟩
 ·by_cases hbl:b<w.heap.size
  ·by_cases hbC:b=Cb
   ·subst hbC;obtain⟨cs,h1,h2⟩:=hcb;rw[h1] at ho;injection ho with ho;subst ho;refine .cells _ _ _ fun v hv=>?_;obtain⟨k,hk,rfl⟩:=Array.mem_iff_getElem.1 hv;have hi:k/2<n:=by omega
    obtain⟨r1,⟨u,r2,r3,r4⟩,-⟩:=hR (k/2) hi;have hcell:w'.cell? ⟨b,k,none⟩=some cs[k]:=by simp[World.cell?,h1,hk]
    rcases Nat.mod_two_eq_zero_or_one k with hm|hm
    ·have e:2*(k/2)=k:=by omega
     rw[e,hcell] at r1;injection r1 with r1;rw[r1];exact .int _ _
    ·have e:2*(k/2)+1=k:=by omega
     rw[e,hcell] at r2;injection r2 with r2;rw[r2];rcases r3.2 with⟨rfl,_⟩|⟨g,cap,cur,fr,rfl,_⟩
     ·exact .snil _ _
     ·exact .slice _ _ _ (own _ g hi (.inl (r4 g rfl)))
   ·rw[hel b hbl hbC] at ho;exact(W.obj b o hbl (fun h=>hs (.inl h)) ho).mono hle
  ·by_cases hb0:b=w.heap.size
   ·subst hb0;obtain⟨v,h1⟩:=hal;rw[h1] at ho;injection ho with ho;subst ho;refine .cells _ _ _ fun x hx=>?_;obtain rfl:x=.int .i64 v:=by simpa using hx
    exact .int _ _
   ·have hex:∃i,i<n/\(O i b\/b=bx i):=Classical.byContradiction fun h=>hs (.inr ⟨by omega,hb,h⟩);obtain⟨i,hi,h⟩:=hex;obtain⟨-,-,r3,-,r5⟩:=hR i hi;rcases h with h|rfl
    ·obtain⟨o',h1,h2⟩:=r3 b h;rw[h1] at ho;injection ho with ho;subst ho;have hle2:Le {zone with D:=fun c=>(c<w.heap.size/\c≠Cb/\¬Sh c)\/c=bx i\/O i c} (Zf zone (ShJ w w' Sh n O bx) w'.heap.size):=by
      refine⟨rfl,rfl,rfl,fun c hc=>?_⟩;rcases hc with⟨c1,c2,c3⟩|h
      ·exact⟨by omega,fun hs=>c3 (old c c1 hs)⟩
      ·exact own i c hi h.symm
     exact Zn.ObjP.mono hle2 h2
    ·rw[r5] at ho;injection ho with ho;subst ho;refine .cells _ _ _ fun x hx=>?_;obtain rfl:x=.int .i64 i:=by simpa using hx
     exact .int _ _
 ·rcases h with h|h
  ·have:=W.sh b h;omega
  ·exact h.2.1
 ·obtain⟨h1,h2⟩:=W.base b h;exact⟨by omega,fun hs=>h2 (old b h1 hs)⟩
theorem c4B{k:Nat}(h:fX k=true)(h2:k≠12):kb k=true:=by
 cases h3:kb k with
 | true=>rfl
 | false=>
  unfold kb at h3;simp at h3;exfalso;have h3:k=12\/k=13\/k=14\/k=70\/k=71\/k=72\/k=73\/k=74\/k=75\/k=76\/k=77\/k=78:=by omega
  rcases h3 with rfl|rfl|rfl|rfl|rfl|rfl|rfl|rfl|rfl|rfl|rfl|rfl;all_goals first|exact h2 rfl|(revert h;decide)
variable[Go.ConcR.Payload][To.Lo]
theorem b6E{Sh:Nat->Prop}{Q:Exit->Act->World->(Nat->Prop)->Prop}{w:World}{Cb fb rb n fc mb sx sb ic c1 c2:Nat}{ids:List Int}{bss:List (List UInt8)}{DB:Nat->Prop}{T:Array Value}(h:Ph w Sh Cb fb rb n fc mb sx sb ic c1 c2 ids bss DB)(hI:Iv zone Sh Full ⟨T,[]⟩ w)
 (hT:T.size=118)(h4:T[4]?=some (.pointer (some ⟨mb,0,none⟩)))(h6:T[6]?=some (.pointer (some ⟨fb,0,none⟩)))(h11:T[11]?=some (.pointer (some ⟨sx,0,none⟩)))
 (hnext:∀T' w' Sh',Jn w Sh Cb n ids bss T T' w' Sh'->Iv zone Sh' (fun k=>fX k=true) ⟨T',[]⟩ w'->wpT Tryz.prog 14 (I5 10) Q ⟨T',[]⟩ w' Sh'):wpT Tryz.prog 14 (I5 6) Q ⟨T,[]⟩ w Sh:=by
 intro b K cs Ψ hb hk hc;obtain⟨hCS,cs0,hC0,hCs⟩:=h.hcb;have hCl:Cb<w.heap.size:=Bi.lt_of_some hC0;obtain⟨df1,df2,df3,df4,-⟩:=h.hDB fb h.DBfb;have eb:∀(a:Act)(k:List Item),b.at a k=(base 14).at a k:=fun a k=>by
  unfold Frame.at;rw[hb,hk];rfl
 rw[eb];refine b4e (Res:=a5p w Sh Cb ids bss) h.W.sh h.fbh df4 ⟨cs0,hC0,hCs⟩ hCS df3 h.hn.1 b0i hT h4 h6 h11 (fun c i b w' a1 a2 a3 a4 a5 a6 a7 a8=>b6O (fun b hb=>hb.2) h a1 a2 a3 a4 a5 a6 a7 a8) ?_;intro w' T' O bx hl hel hR hO hd hal hcb hsz hos hou;have hW:=b81 h.W hCS hCl hel hR hO hal hcb hsz;have old:∀b,b<w.heap.size->ShJ w w' Sh n O bx b->Sh b:=fun b hb h=>h.elim id fun h=>by omega
 have hAl:¬ShJ w w' Sh n O bx w.heap.size:=fun h=>h.elim (fun h'=>by have:=hI.W.sh _ h';omega) fun h=>by omega
 refine⟨ShJ w w' Sh n O bx,fun b h=>.inl h,.inr ⟨Nat.le_refl _,by omega,?_⟩,?_⟩
 ·rintro⟨i,hi,h|h⟩
  ·have:=hO i _ h;omega
  ·have:=(hR i hi).2.2.2.1;omega
 ·unfold joined;refine To.move rfl (fun _=>stepG_region_end) ?_;have eT:Act.put ⟨T',[]⟩ (some 78) (.tuple #[])=⟨T'.setIfInBounds 78 (.tuple #[]),[]⟩:=rfl;rw[eT,<-eb];have g:∀k,k≠78->(T'.setIfInBounds 78 (.tuple #[]))[k]?=T'[k]?:=fun k hk=>Array.getElem?_setIfInBounds_ne (Ne.symm hk);refine hnext _ w' (ShJ w w' Sh n O bx) ⟨by simp[hl.size],?_,?_,hal,?_,?_,hel,by omega,hos,hou,fun b h=>.inl h,old⟩ ⟨fun t ht=>?_,fun d hd=>(by cases hd),hW⟩ b K cs Ψ hb hk hc
  ·exact(g 11 (by decide)).trans (hl.keep 11 (by decide))
  ·exact(g 12 (by decide)).trans hl.t12
  ·intro i hi;obtain⟨r1,⟨u,r2,r3,-⟩,-⟩:=hR i hi;exact⟨r1,u,r2,r3⟩
  ·intro i u g hi hu hg;obtain⟨-,⟨u',r2,-,r4⟩,-⟩:=hR i hi;rw[hu] at r2;injection r2 with r2;subst r2;have:=hO i g (r4 g hg);omega
  ·show VP _ ((T'.setIfInBounds 78 (.tuple #[])).getD t undef);have h78:t≠78:=by rintro rfl;revert ht;decide
   rw[Array.getD_eq_getD_getElem?,g t h78];by_cases h12:t=12
   ·subst h12;rw[hl.t12];exact .ptr _ ⟨by show w.heap.size<_;omega,hAl⟩
   ·rw[hl.keep t (c4B ht h12),<-Array.getD_eq_getD_getElem?];have hle:Le (Zf zone Sh w.heap.size) (Zf zone (ShJ w w' Sh n O bx) w'.heap.size):=⟨rfl,rfl,rfl,fun b h=>⟨Nat.lt_of_lt_of_le h.1 (by omega),fun hs=>h.2 (old b h.1 hs)⟩⟩;exact(hI.tmps t trivial).mono hle
end
section
open Go.RowKit Go.Lib Go.Maps Dk Pl
open Go.Conc Go.Mw
open Zn (tp Full WPs VP Zf Le)
open To (wpT wpT_lone H8 Iv a7h To at_ a8Q bodyT)
def b1e(W:World)(sb a:Nat)(gen:Nat)(ids:List Int)(bss:List (List UInt8)):Prop:=
 ∃(ia:Option Addr)(ic Cb r:Nat)(v:Int),o7 W sb 138 #[y8 a,.int .u64 gen,.slice ia ids.length ic,.slice (some ⟨Cb,0,none⟩) ids.length ids.length,.map (some r),.int .i64 v]/\Ints W (.slice ia ids.length ic) ids/\a2A W Cb ids.length ids bss/\a19 W r (a3C bss ids.length)/\bss.length=ids.length
theorem a2A.frame{w w':World}{Cb n:Nat}{ids:List Int}{bss:List (List UInt8)}(h:a2A w Cb n ids bss)(hC:w'.heap[Cb]?=w.heap[Cb]?)(hk:∀i u g,i<n->w.cell? ⟨Cb,2*i+1,none⟩=some u->u.ownBlock=some g->w'.heap[g]?=w.heap[g]?):a2A w' Cb n ids bss:=by
 intro i hi;obtain⟨h1,u,h2,h3⟩:=h i hi;exact⟨(World.cell?_of_block hC).trans h1,u,(World.cell?_of_block hC).trans h2,h3.keep fun g hg=>hk i u g hi h2 hg⟩
theorem a2A.ty{w:World}{Cb n:Nat}{ids:List Int}{bss:List (List UInt8)}(h:a2A w Cb n ids bss){i g:Nat}{u:Value}(hi:i<n)(hu:w.cell? ⟨Cb,2*i+1,none⟩=some u)(hg:u.ownBlock=some g):∃cur fr,w.heap[g]?=some (.cells cur 160 fr):=by
 obtain⟨-,u',h2,h3⟩:=h i hi;rw[hu] at h2;injection h2 with h2;subst h2;rcases h3.2 with⟨rfl,_⟩|⟨g',cap,cur,fr,rfl,h4,_⟩
 ·cases hg
 ·obtain rfl:g'=g:=by simpa [Value.ownBlock] using hg
  exact⟨_,_,h4⟩
structure b82(F Sh:Nat->Prop)(a:Nat)(d:D)(w:World)(v:Value)(w':World)(Sh':Nat->Prop):Prop where
 W:WPs zone Sh' w'
 up:∀b,Sh b->Sh' b
 old:∀b,b<w.heap.size->Sh' b->Sh b
 vp:VP (Zf zone Sh' w'.heap.size) v
 chh:Chh F w w'
 disk:A8 w' F a d.kopen.2.2
 res:(d.kopen.1=none/\d.kopen.2.1≠.ok/\∃y,v=.tuple #[.pointer none,y]/\Held w' F (fun W=>ErrAt W y d.kopen.2.1)) ∨
  (∃sb gen ids bss,d.kopen.1=some (gen,ids,bss)/\d.kopen.2.1=.ok/\b0z ids/\v=.tuple #[.pointer (some ⟨sb,0,none⟩),.nilIface]/\Held w' F (fun W=>b1e W sb a gen ids bss))
section
theorem b6F[To.Lo]{F Sh:Nat->Prop}{a:Nat}{d d2:D}{w w1:World}{T:Array Value}{gen:Nat}{ids:List Int}{bss:List (List UInt8)}{mb fb rb sx sb Cb:Nat}{ia:Option Addr}{ic:Nat}{vs:List Value}(h:Hd F a d w T w1 gen ids bss mb fb rb sx sb Cb ia ic vs d2)(hF:∀b,F b->b<w.heap.size)(hSh:∀b,Sh b->b<w.heap.size)
 {T':Array Value}{w2:World}{Sh':Nat->Prop}(hJ:Jn w1 Sh Cb ids.length ids bss T T' w2 Sh')(hI:Iv zone Sh' (fun k=>fX k=true) ⟨T',[]⟩ w2):wpT Tryz.prog 14 (I5 10) (bodyT Tryz.prog Tryz.f14 (b82 F Sh a d w)) ⟨T',[]⟩ w2 Sh':=by
 obtain⟨n1,n2,n3,n4,n5,n6⟩:=h.new;have hC1:=h.hcb;have hmem:∀{c:Code},c∈V9->Zn.CodeP zone c:=b0f;have huse:∀{c:Code},c∈[N7 10,N7 11,N7 12,I5 13]->Zn.CodeU (fun k=>fX k=true) c:=b80;have hsx1:w1.heap[sx]?=some (.cells #[.pointer (some ⟨sb,0,none⟩)] 32):=h.hsx;have hsb1:w1.heap[sb]?=some (.cells #[y8 a,.int .u64 gen,.slice ia ids.length ic,.slice (some ⟨Cb,0,none⟩) ids.length ids.length,.map none,.int .i64 0] 138):=h.hsb;have sxC:=a2q hsx1 hC1 (by decide);have sbC:=a2q hsb1 hC1 (by decide);have sxb:=a2q hsx1 hsb1 (by decide);have hsx2:o7 w2 sx 32 #[.pointer (some ⟨sb,0,none⟩)]:=(hJ.old sx (Bi.lt_of_some hsx1) sxC).trans hsx1;have hsb2:o7 w2 sb 138 #[y8 a,.int .u64 gen,.slice ia ids.length ic,.slice (some ⟨Cb,0,none⟩) ids.length ids.length,.map none,.int .i64 0]:=(hJ.old sb (Bi.lt_of_some hsb1) sbC).trans hsb1;have hD2:A8 w2 F a d2:=h.disk.frame (fun b hb=>hJ.old b (Nat.lt_of_lt_of_le (hF b hb) h.chh.size) fun e=>by have:=hF b hb;omega) hJ.size;have hiC:∀b,(Value.slice ia ids.length ic).ownBlock=some b->w.heap.size<=b/\b<w1.heap.size/\b≠Cb/\b≠sb:=fun b hb=>by
  rcases h.hids.2 with⟨e,_⟩|⟨g,cap,cur,e,hg,hc,_⟩
  ·rw[e] at hb;cases hb
  ·rw[e] at hb;obtain rfl:g=b:=by simpa [Value.ownBlock] using hb
   exact⟨hg,Bi.lt_of_some hc,a2q hc hC1 (by decide),a2q hc hsb1 (by decide)⟩
 have hids2:OwnI w2 w.heap.size (.slice ia ids.length ic) ids:=Dep.row h.hids w2 fun b hb=>hJ.old b (hiC b hb).2.1 (hiC b hb).2.2.1;obtain⟨vc,hal⟩:=hJ.al;have g11:T'[11]?=some (.pointer (some ⟨sx,0,none⟩)):=hJ.t11.trans h.t11;have c2:Chh F w w2:=⟨hJ.os.trans h.chh.os,hJ.output.trans h.chh.output,Nat.le_trans h.chh.size hJ.size,fun b hb hn=>(hJ.old b (Nat.lt_of_lt_of_le hb h.chh.size) (by omega)).trans (h.chh.block b hb hn)⟩;rw[b3P];refine H8 (piece (fun w=>QO6 sx sb (y8 a) (.int .u64 gen) (.slice ia ids.length ic) (.slice (some ⟨Cb,0,none⟩) ids.length ids.length) (.map none) vc w1.heap.size w) hI (hmem (by simp[V9])) (huse (by simp)) (fun τ p=>t10 T' hJ.hs g11 hJ.t12 _ _ _ _ _ _ vc 143 _ hsx2 hsb2 hal) ?_);rintro e ⟨T3,ds3⟩ w3 τ p τ' p' q;cases e<;>first|exact q.elim|skip
 obtain⟨q1,q2,q3,q4,q5⟩:=q;dsimp only at q1 q2 q3;subst q1;have c3:Chh (fun b=>b=sb) w2 w3:=⟨q5.os,q5.output,Nat.le_of_eq q5.size.symm,fun b _ hb=>q5.block b hb⟩;replace q4:o7 w3 sb 138 #[y8 a,.int .u64 gen,.slice ia ids.length ic,.slice (some ⟨Cb,0,none⟩) ids.length ids.length,.map none,.int .i64 vc]:=q4;clear q5;refine⟨.inl rfl,fun hI3 _=>?_⟩;have hsx3:=c3.box hsx2 sxb;show wpT _ _ _ _ _ _ _;rw[b3Q];refine H8 (piece (fun w=>QO7 sx sb (y8 a) (.int .u64 gen) (.slice ia ids.length ic) (.slice (some ⟨Cb,0,none⟩) ids.length ids.length) vc w) hI3 (hmem (by simp[V9])) (huse (by simp)) (fun τ p=>t11 T3 q2 q3 _ _ _ _ _ vc _ hsx3 q4) ?_);rintro e ⟨T4,ds4⟩ w4 τ p τ' p' q;cases e<;>first|exact q.elim|skip
 obtain⟨r1,r2,r3,r4,r,r5,r6,r7⟩:=q;dsimp only at r1 r2 r3;subst r1;have c4:Chh (fun b=>b=sb) w3 w4:=.of r4;replace r5:w3.heap.size<=r:=r5;replace r6:o7 w4 sb 138 #[y8 a,.int .u64 gen,.slice ia ids.length ic,.slice (some ⟨Cb,0,none⟩) ids.length ids.length,.map (some r),.int .i64 vc]:=r6;replace r7:a19 w4 r []:=r7;clear r4;refine⟨.inl rfl,fun hI4 _=>?_⟩;have hsx4:=c4.box hsx3 sxb;have c24:Chh (fun b=>b=sb) w2 w4:=c3.trans c4;have hCl2:Cb<w2.heap.size:=Nat.lt_of_lt_of_le (Bi.lt_of_some hC1) hJ.size;have hS4:a2A w4 Cb ids.length ids bss:=hJ.segs.frame (c24.block Cb hCl2 (Ne.symm sbC)) fun i u g hi hu hg=>by
  obtain⟨cur,fr,hc⟩:=hJ.segs.ty hi hu hg;exact c24.block g (Bi.lt_of_some hc) (a2q hc (show w2.heap[sb]?=some (.cells _ 138) from hsb2) (by decide))
 have s1:w1.heap.size<=r:=Nat.le_trans hJ.size (Nat.le_trans c3.size r5);have hrne:r≠sx/\r≠sb:=by
  have:=Bi.lt_of_some hsx1;have:=Bi.lt_of_some hsb1;omega
 show wpT _ _ _ _ _ _ _;rw[b3R];refine H8 (piece (fun w=>QO8 sx r bss ids.length w) hI4 (hmem (by simp[V9])) (huse (by simp)) (fun τ p=>t12 T4 r2 r3 _ _ _ _ ids bss _ hsx4 r6 ⟨Nat.le_refl _,by have:=h.idsIn.1;omega⟩ hS4 r7 hrne) ?_);rintro e ⟨T5,ds5⟩ w5 τ p τ' p' q;cases e<;>first|exact q.elim|skip
 obtain⟨u1,u2,u3,u4,u5⟩:=q;dsimp only at u1 u2 u3;subst u1;have c5:Chh (fun b=>b=r) w4 w5:=.of u4;replace u5:a19 w5 r (a3C bss ids.length):=u5;clear u4;refine⟨.inl rfl,fun hI5 _=>?_⟩;have hsx5:=c5.box hsx4 (Ne.symm hrne.1);have hsb5:=c5.box r6 (Ne.symm hrne.2);refine piece (fun w=>QO9 sb w) hI5 (hmem (by simp[V9])) (huse (by simp)) (fun τ p=>t13 T5 u2 u3 _ hsx5) ?_;rintro e a6 w6 τ p τ' p' q;cases e<;>first|exact q.elim|skip
 obtain⟨v1,v2,v3,v4⟩:=q;have c6:Chh (fun _=>False) w5 w6:=.eq v4;refine⟨.inr rfl,fun hI6 _=>⟨v1,_,resultsC_tmp2 rfl a6.tmps,?_⟩⟩;rw[G9 v2,G9 v3];have z26:w2.heap.size<=w6.heap.size:=Nat.le_trans c24.size (Nat.le_trans c5.size c6.size);have z2r:w2.heap.size<=r:=Nat.le_trans c3.size r5;have k26:∀b,b<w2.heap.size->b≠sb->w6.heap[b]?=w2.heap[b]?:=fun b hb hn=>
  (c6.block b (Nat.lt_of_lt_of_le hb (Nat.le_trans c24.size c5.size)) fun h=>h).trans ((c5.block b (Nat.lt_of_lt_of_le hb c24.size) (by omega)).trans (c24.block b hb hn))
 have z12:=hJ.size;have z01:=h.chh.size;have hsb6:=c6.box hsb5 fun h=>h;have hM6:a19 w6 r (a3C bss ids.length):=u5.block (c6.block r (by obtain⟨es,c,h1,-⟩:=u5;exact Bi.lt_of_some h1) fun h=>h);have hids6:OwnI w6 w.heap.size (.slice ia ids.length ic) ids:=Dep.row hids2 w6 fun b hb=>k26 b (by have:=hiC b hb;omega) (hiC b hb).2.2.2;have cellC:∀k,w6.cell? ⟨Cb,k,none⟩=w2.cell? ⟨Cb,k,none⟩:=fun k=>World.cell?_of_block (k26 Cb hCl2 (Ne.symm sbC));have gk:∀i u g,i<ids.length->w2.cell? ⟨Cb,2*i+1,none⟩=some u->u.ownBlock=some g->w.heap.size<=g/\g<w2.heap.size/\g≠sb:=fun i u g hi hu hg=>by
  obtain⟨cur,fr,hc⟩:=hJ.segs.ty hi hu hg;exact⟨Nat.le_trans z01 (hJ.segsNew i u g hi hu hg),Bi.lt_of_some hc,a2q hc (show w2.heap[sb]?=some (.cells _ 138) from hsb2) (by decide)⟩
 have hS6:a2A w6 Cb ids.length ids bss:=hJ.segs.frame (k26 Cb hCl2 (Ne.symm sbC)) fun i u g hi hu hg=>k26 g (gk i u g hi hu hg).2.1 (gk i u g hi hu hg).2.2;have hsbl:sb<w1.heap.size:=Bi.lt_of_some hsb1;have hrl:r<w6.heap.size:=by obtain⟨es,c,h1,-⟩:=hM6;exact Bi.lt_of_some h1
 exact{
  W:=hI6.W
  up:=hJ.shUp
  old:=fun b hb hs=>hJ.shOld b (Nat.lt_of_lt_of_le hb z01) hs
  vp:=by
   refine .tuple _ fun x hx=>?_;rcases(by simpa using hx:x=.pointer (some ⟨sb,0,none⟩)\/x=.nilIface) with rfl|rfl
   ·exact .ptr _ ⟨by show sb<_;omega,fun hs=>by have:=hSh sb (hJ.shOld sb hsbl hs);omega⟩
   ·exact .nilIface
  chh:=by
   refine⟨c6.os.trans (c5.os.trans (c24.os.trans c2.os)),c6.output.trans (c5.output.trans (c24.output.trans c2.output)),by omega,fun b hb hn=>(k26 b (by omega) (by omega)).trans (c2.block b hb hn)⟩
  disk:=by rw[h.ko];exact hD2.frame (fun b hb=>k26 b (by have:=hF b hb;omega) (by have:=hF b hb;omega)) z26
  res:=by
   refine .inr ⟨sb,gen,ids,bss,by rw[h.ko],by rw[h.ko],h.idsIn,rfl,fun b=>w.heap.size<=b/\b<w6.heap.size,fun b hb=>⟨hb.2,fun hf=>by have:=hF b hf;omega⟩,fun w'' hw=>?_⟩;have hkb:∀b,w.heap.size<=b->b<w6.heap.size->w''.heap[b]?=w6.heap[b]?:=fun b h1 h2=>hw b ⟨h1,h2⟩;refine⟨ia,ic,Cb,r,vc,(hkb sb n5 (by omega)).trans hsb6,OwnI.ints (B:=w.heap.size) (Dep.row hids6 w'' fun b hb=>hkb b (hiC b hb).1 (by have:=hiC b hb;omega)),?_,hM6.block (hkb r (by omega) hrl),h.hbss⟩;exact hS6.frame (hkb Cb n6 (by omega)) fun i u g hi hu hg=>by
    rw[cellC] at hu;have:=gk i u g hi hu hg;exact hkb g this.1 (by omega)}
theorem b6G[Go.ConcR.Payload][To.Lo]{F Sh:Nat->Prop}{a:Nat}{d:D}{w:World}(W:WPs zone Sh w)(hgl:Tryz.prog.globals.size<=w.heap.size)(hv:VP (Zf zone Sh w.heap.size) (y8 a))(hD:A8 w F a d)(hds:∀x∈d.ids,(d.node x).data.length<=1099511627776)(hl:Held w F LaidP):
 a8Q Tryz.prog 14 #[y8 a] w Sh (b82 F Sh a d w):=by
 refine⟨Tryz.f14,I5 0,Tryz.func14,by kernel_rfl,by kernel_rfl,?_⟩;have en:Tryz.f14.ntmps=118:=by kernel_rfl
 rw[en];have eT:(#[y8 a]:Array Value).size=1:=rfl;rw[eT];have hI:Iv zone Sh Full ⟨#[y8 a]++Array.replicate (118 - 1) undef,[]⟩ w:=by
  refine⟨fun t _=>?_,fun d hd=>(by cases hd),W⟩;show VP _ ((#[y8 a]++Array.replicate (118 - 1) undef).getD t undef);rw[Array.getD_eq_getD_getElem?,Array.getElem?_append];split
  ·rename_i h;obtain rfl:t=0:=by simpa using h
   exact hv
  ·rw[Array.getElem?_replicate];split
   ·exact Zn.vp_undef
   ·exact Zn.vp_undef
 refine b6B (F:=F) (d:=d) hI (by simp) (by simp) hD (fun x hx=>Nat.le_trans (hds x hx) (by decide)) hl ?_ ?_
 ·intro a' w' y hE hI';refine⟨hE.defers,_,resultsC_tmp2 rfl a'.tmps,?_⟩;rw[G9 hE.t2,G9 hE.t3];have hy:=hI'.tmps 3 trivial;rw[G9 hE.t3] at hy;exact⟨hI'.W,fun _ h=>h,fun _ _ h=>h,.tuple _ fun x hx=>by
   rcases(by simpa using hx:x=.pointer none\/x=y) with rfl|rfl
   ·exact .pnil
   ·exact hy,hE.chh,hE.disk,.inl ⟨hE.ko.1,hE.ko.2,y,rfl,hE.err⟩⟩
 ·intro T w' gen ids bss mb fb rb sx sb Cb ia ic vs d2 h hI';have hlen:∀l∈bss,l.length<=1099511627776:=by
   have hk:=h.ko;have hm:=D.readMan_same d
   cases hr:d.readMan.1 with
   | none=>rw[a1c hr] at hk;cases hk
   | some r=>
    obtain⟨g,l⟩:=r;have hwf:d.readMan.2.2.Wf:=by
     have hw:=hD.wf;exact⟨by rw[hm.now,hm.ids];exact hw.now,by rw[hm.safe,hm.ids];exact hw.safe,by rw[hm.moves,hm.ids];exact hw.moves,by rw[hm.node,hm.ids];exact hw.part,by rw[hm.ids];exact hw.ids⟩
    cases he:(D.opensAcc l d.readMan.2.2 []).2.1 with
    | ok=>
     rw[a8m hr he] at hk;injection hk with h1 h2;injection h1 with h1;injection h1 with h1 h3;injection h3 with h3 h4;rw[<-h4]
     exact b6D l hwf (by rw[hm.ids,hm.node];exact hds) fun l hl=>by cases hl
    | num n=>rw[a1S hr (by rw[he];exact fun h=>by cases h)] at hk;cases hk
    | file n m=>rw[a1S hr (by rw[he];exact fun h=>by cases h)] at hk;cases hk
  obtain⟨g,c2,hp⟩:=h.ph hI'.W W.sh hgl hlen;exact b6E hp hI' h.hs h.t4 h.t6 h.t11 fun T' w2 Sh' hJ hI2=>b6F h hD.low W.sh hJ hI2
end
end
section
open Go.RowKit Go.Lib Pl
def a4r(p:Nat×Rec):List Value:=[.int .u64 p.2.seq,.string ⟨p.2.key.toArray⟩,.string ⟨p.2.val.toArray⟩,.bool p.2.del,.int .i64 p.2.size]
def sliceLen:Value->Nat
 | .slice _ n _=>n
 | _=>0
theorem b7t:(Tryz.prog.info? 116).map (fun i=>(i.zero,i.size,i.bytes))=some (some (.agg #[.int .u64 0,.string ⟨#[]⟩,.string ⟨#[]⟩,.bool false,.int .i64 0]),5,56):=by kernel_rfl
theorem b26(v:Value)(l:List UInt8)(w:World)(h:Bytes w v l)(hl:l.length<=1099511627776):
 Calls Tryz.prog 69 #[v] w fun e w'=>∃u,e=.returned u/\w'.ownsRow w.heap.size 116 5 u (P7 l).length ((P7 l).flatMap a4r)/\Ext w w':=by
 obtain⟨i0,hi,hz0,hz1,hz2⟩:=info_parts b7t;have H:=Lib.hid h;clear h;go_enter Tryz.func69,Tryz.ntmps69
 go_wp2;go_loopw [0,3] (fun b u wr=>∃(rs:List (Nat×Rec))(off n:Nat),Bytes w b (l.drop off)/\off<=l.length/\rs.length<=off/\P7 l=rs++a0h n off l/\l.length<n+off/\wr.ownsRow w.heap.size 116 5 u rs.length (rs.flatMap a4r)/\Ext w wr) (fun b _ _=>sliceLen b)
 case atStart=>exact⟨[],0,l.length+1,H.out,by omega,by simp,rfl,by omega,⟨rfl,Or.inl ⟨rfl,rfl⟩⟩,Ext.refl w⟩
 case round=>
  obtain⟨rs,off,n,hb,hoff,hrs,hsc,hn,hown,hE⟩:=hrel;obtain⟨ba,bc,rfl,hbc,hbc2,-⟩:=id hb;have hdl:(l.drop off).length=l.length - off:=List.length_drop;rw[hdl] at hbc hb⊢;have HN:=Lib.hid hn;have HSC:=Lib.hid hsc;have HO:=Lib.hid hown;have HE:=Lib.hid hE;have HB:=Lib.hid hb;have HRS:=Lib.hid hrs;clear hn hsc hown hE hb hrs;go_wp2_with fail
  refine(a9x _ (l.drop off) wr (HB.out.ext HE.out)).mono ?_;rintro e w1 ⟨rfl,hE1⟩
  cases hd:dec (l.drop off) with
  | none=>
   have hfin:∀wz,Ext w1 wz->(World.ownsRow wz w.heap.size 116 5 u3 (P7 l).length ((P7 l).flatMap a4r)/\Ext w wz):=fun wz hz=>by
    have e0:=(HSC.out).trans (by rw[a4H hd,List.append_nil]);rw[e0];exact⟨Dep.row HO.out wz fun b hb=>(hE1.trans hz).block b (World.ownsRow.lt HO.out b hb).2,HE.out.trans (hE1.trans hz)⟩
   have HF:=Lib.hid hfin;clear hfin hE1 HB HN HSC HO HE;unfold N9 a0l;go_wp2_with fail
   exact bodyPost_ret (v:=u3) (by simp[results,Tryz.results69]) rfl ⟨u3,rfl,HF.out _ ((Ext.refl w1).new _)⟩
  | some r=>
   obtain⟨hr1,hr2⟩:=b2D hd;rw[hdl] at hr2;have hn:=HN.out;obtain⟨m,rfl⟩:∃m,n=m+1:=⟨n - 1,by omega⟩;have e0:P7 l=(rs++[(off,r)])++a0h m (off+r.size) l:=by
    rw[HSC.out,List.append_assoc];simp[a0h,hd]
   have hX:o7 (w1.alloc (.cells #[.int .u64 r.seq,.string ⟨r.key.toArray⟩,.string ⟨r.val.toArray⟩,.bool r.del,.int .i64 r.size] 116)) w1.heap.size 116 #[.int .u64 r.seq,.string ⟨r.key.toArray⟩,.string ⟨r.val.toArray⟩,.bool r.del,.int .i64 r.size]:=o7.new _ _ rfl;obtain⟨ua,uc,rfl⟩:=ownsRow_form HO.out;have hrlt:∀b,(Value.slice ua rs.length uc).ownBlock=some b->b<w1.heap.size:=fun b hb=>Nat.lt_of_lt_of_le (World.ownsRow.lt HO.out b hb).2 hE1.size;have HRL:=Lib.hid hrlt;clear hrlt;have hE2:Ext w (w1.alloc (.cells #[.int .u64 r.seq,.string ⟨r.key.toArray⟩,.string ⟨r.val.toArray⟩,.bool r.del,.int .i64 r.size] 116)):=(Ext.trans HE.out hE1).new _;have hown:=Dep.row HO.out (w1.alloc (.cells #[.int .u64 r.seq,.string ⟨r.key.toArray⟩,.string ⟨r.val.toArray⟩,.bool r.del,.int .i64 r.size] 116)) fun b hb=>(hE1.new (.cells #[.int .u64 r.seq,.string ⟨r.key.toArray⟩,.string ⟨r.val.toArray⟩,.bool r.del,.int .i64 r.size] 116)).block b (World.ownsRow.lt HO.out b hb).2;have hrl:=HRS.out;have hsz:w.heap.size<=w1.heap.size:=(Ext.trans HE.out hE1).size;have hnw:((w1.alloc (.cells #[.int .u64 r.seq,.string ⟨r.key.toArray⟩,.string ⟨r.val.toArray⟩,.bool r.del,.int .i64 r.size] 116)).alloc (.cells #[.int .u64 r.seq,.string ⟨r.key.toArray⟩,.string ⟨r.val.toArray⟩,.bool r.del,.int .i64 r.size] 116)).heap[w1.heap.size+1]?=some (.cells #[.int .u64 r.seq,.string ⟨r.key.toArray⟩,.string ⟨r.val.toArray⟩,.bool r.del,.int .i64 r.size] 116):=by
    have e:(w1.alloc (.cells #[.int .u64 r.seq,.string ⟨r.key.toArray⟩,.string ⟨r.val.toArray⟩,.bool r.del,.int .i64 r.size] 116)).heap.size=w1.heap.size+1:=by simp
    rw[<-e];exact heap_alloc_new _ _
   have hsl:=HB.out.sliced r.size (l.length - off) hr2 (by omega);have HOW:=Lib.hid hown;have HE2:=Lib.hid hE2;have E0:=Lib.hid e0;have HX:=Lib.hid hX;have HE1:=Lib.hid hE1;have HSL:=Lib.hid hsl;clear hown hE2 e0 hX hE1 HN HSC HO HB hsl;unfold N9;go_wp2_with (at_builtin;go_must (refine H5 rfl _ _ 52 rfl w.heap.size 116 i0 (.agg #[.int .u64 0,.string ⟨#[]⟩,.string ⟨#[]⟩,.bool false,.int .i64 0]) 5 56 Tryz.underlying52 hi hz0 hz1 hz2 rfl (by omega) (.slice ua rs.length uc) rs.length _ rfl (World.ownsRow.alloc HOW.out (.cells #[.int .u64 r.seq,.string ⟨r.key.toArray⟩,.string ⟨r.val.toArray⟩,.bool r.del,.int .i64 r.size] 116)) (.slice (some ⟨w1.heap.size+1,0,none⟩) 1 1) 1 [.int .u64 r.seq,.string ⟨r.key.toArray⟩,.string ⟨r.val.toArray⟩,.bool r.del,.int .i64 r.size] rfl ⟨_,_,rfl,by omega,⟨by omega,fun h=>by cases h⟩,fun _=>⟨_,rfl,World.news_of_block (cs:=#[.int .u64 r.seq,.string ⟨r.key.toArray⟩,.string ⟨r.val.toArray⟩,.bool r.del,.int .i64 r.size]) (t:=116) (fr:=(0,0)) hnw⟩⟩ rfl (by simp[Value.oneCell']) (by unfold maxLen;omega) (by omega) (by simp;omega) ?_);intro b6 c6 w6 hown6 hgrow6 hat6;have HO6:=Lib.hid hown6;have HG6:=Lib.hid hgrow6;clear hown6 hgrow6 hat6;have hX6:=Lib.hid ((HG6.out.block w1.heap.size (by simp;omega) (fun e=>by have:=HRL.out _ e.symm;omega)).trans (HX.out.alloc (.cells #[.int .u64 r.seq,.string ⟨r.key.toArray⟩,.string ⟨r.val.toArray⟩,.bool r.del,.int .i64 r.size] 116)));have d64:=(o7.cell hX6.out 4).trans (show _=some (Value.int .i64 r.size) from rfl))
   all_goals
    go_roundw
    case rel=>
     have hs:=HSL.out;refine⟨rs++[(off,r)],off+r.size,m,?_,by omega,by simp;omega,E0.out,by omega,?_,?_⟩
     ·have e1:(l.drop off).take (l.length - off)=l.drop off:=by rw[List.take_of_length_le (by rw[hdl];exact Nat.le_refl _)]
      rw[e1,List.drop_drop] at hs;have e2:(l.drop (off+r.size)).length=l.length - off - r.size:=by rw[List.length_drop];omega
      exact hs
     ·have:=HO6.out;rw[List.length_append,List.flatMap_append];simpa [a4r] using this
     ·refine Below.grown (HE2.out.new _) HG6.out (by simp;omega) (fun j hj=>?_);have:=(World.ownsRow.lt HOW.out j hj).1;omega
    case measure=>simp[sliceLen];omega
end
section
open Dk Pl
def O9(l:Fl):List Int->List (List UInt8)->Option (List (List UInt8))×Nm
 | [],acc=>(some acc,[])
 | id::ids,acc=>match F5 l (G5 J8 id.toNat) with
  | none=>(none,G5 J8 id.toNat)
  | some b=>O9 l ids (acc++[b])
theorem a5L{l:Fl}{id:Int}{ids:List Int}{acc:List (List UInt8)}{b:List UInt8}(h:F5 l (G5 J8 id.toNat)=some b):O9 l (id::ids) acc=O9 l ids (acc++[b]):=by
 show(match F5 l (G5 J8 id.toNat) with|none=>(none,G5 J8 id.toNat)|some b=>O9 l ids (acc++[b]))=_;rw[h]
theorem a5M{l:Fl}{id:Int}{ids:List Int}{acc:List (List UInt8)}(h:F5 l (G5 J8 id.toNat)=none):O9 l (id::ids) acc=(none,G5 J8 id.toNat):=by
 show(match F5 l (G5 J8 id.toNat) with|none=>(none,G5 J8 id.toNat)|some b=>O9 l ids (acc++[b]))=_;rw[h]
def I7(l:Fl):Option (Nat×List Int×List (List UInt8))×Int×Nm:=
 match F5 l H9 with
 | none=>(none,5,[])
 | some m=>match readMan m with
  | none=>(none,6,[])
  | some (g,ids)=>match O9 l ids [] with
   | (some bss,_)=>(some (g,ids,bss),0,[])
   | (none,n)=>(none,7,n)
section
variable{l:Fl}{m:List UInt8}{g:Nat}{ids:List Int}{bss:List (List UInt8)}{n:Nm}
theorem a05(h:F5 l H9=none):I7 l=(none,5,[]):=by unfold I7;rw[h]
theorem a1z(h:F5 l H9=some m)(hm:readMan m=none):I7 l=(none,6,[]):=by unfold I7;rw[h];dsimp only;rw[hm]
theorem a2g(h:F5 l H9=some m)(hm:readMan m=some (g,ids))(hs:O9 l ids []=(some bss,n)):I7 l=(some (g,ids,bss),0,[]):=by unfold I7;rw[h];dsimp only;rw[hm];dsimp only;rw[hs]
theorem a06(h:F5 l H9=some m)(hm:readMan m=some (g,ids))(hs:O9 l ids []=(none,n)):I7 l=(none,7,n):=by unfold I7;rw[h];dsimp only;rw[hm];dsimp only;rw[hs]
end
theorem b1F(l:Fl)(h:(I7 l).1≠none):(I7 l).2.2=[]:=by
 cases hm:F5 l H9 with
 | none=>rw[a05 hm]
 | some m=>
  cases hr:readMan m with
  | none=>rw[a1z hm hr]
  | some r=>
   obtain⟨g,ids⟩:=r
   cases hs:O9 l ids [] with
   | mk o n=>
    cases o with
    | some bss=>rw[a2g hm hr hs]
    | none=>rw[a06 hm hr hs] at h;exact absurd rfl h
theorem a9A{d:D}(h:d.Calm):∀(ids:List Int)(acc:List (List UInt8)),(∀bss n,O9 d.files ids acc=(some bss,n)->D.opensAcc ids d acc=(bss,.ok,d))/\(∀n,O9 d.files ids acc=(none,n)->∃acc',D.opensAcc ids d acc=(acc',.file 7 n,d)):=by
 intro ids
 induction ids with
 | nil=>
  intro acc;refine⟨fun bss n e=>?_,fun n e=>?_⟩
  ·simp only[O9,Prod.mk.injEq,Option.some.injEq] at e;rw[<-e.1];rfl
  ·simp[O9] at e
 | cons id ids ih=>
  intro acc;have hw:=h.whole (G5 J8 id.toNat)
  cases hf:d.file (G5 J8 id.toNat) with
  | none=>
   rw[hf] at hw;dsimp only at hw;have hl:F5 d.files (G5 J8 id.toNat)=none:=by rw[a4P,hf]
   rw[a5M hl];refine⟨fun bss n e=>by simp at e,fun n e=>?_⟩;simp only[Prod.mk.injEq,true_and] at e;subst e
   exact⟨acc,by rw[a1I hw (by simp)];simp[Er.code]⟩
  | some b=>
   rw[hf] at hw;dsimp only at hw;have hl:F5 d.files (G5 J8 id.toNat)=some b:=by rw[a4P,hf]
   rw[a5L hl,a3P hw];exact ih (acc++[b])
theorem b4J{d:D}(h:d.Calm):d.kopen.2.2=d/\d.kopen.1=(I7 d.files).1/\d.kopen.2.1.code=(I7 d.files).2.1/\(d.kopen.2.1.code=7->d.kopen.2.1.name=(I7 d.files).2.2)/\(d.kopen.1=none<->d.kopen.2.1.code≠0):=by
 have hr:=h.readMan;have hl:=a4P d H9
 cases hf:d.file H9 with
 | none=>
  rw[hf] at hr hl;dsimp only at hr;have e:d.kopen=(none,.num 5,d):=by rw[a1c (by rw[hr]),hr]
  rw[e,a05 hl]
  exact⟨rfl,rfl,rfl,fun h=>by simp[Er.code] at h,by simp[Er.code]⟩
 | some m=>
  rw[hf] at hr hl;dsimp only at hr
  cases hm:readMan m with
  | none=>
   rw[hm] at hr;dsimp only at hr;have e:d.kopen=(none,.num 6,d):=by rw[a1c (by rw[hr]),hr]
   rw[e,a1z hl hm]
   exact⟨rfl,rfl,rfl,fun h=>by simp[Er.code] at h,by simp[Er.code]⟩
  | some r=>
   obtain⟨g,ids⟩:=r;rw[hm] at hr;dsimp only at hr;obtain⟨h1,h2⟩:=a9A h ids [];have e1:d.readMan.1=some (g,ids):=by rw[hr]
   have e2:d.readMan.2.2=d:=by rw[hr]
   cases hs:O9 d.files ids [] with
   | mk o n=>
    cases o with
    | some bss=>
     have e3:=h1 bss n hs;have e:d.kopen=(some (g,ids,bss),.ok,d):=by rw[a8m e1 (by rw[e2,e3]),e2,e3]
     rw[e,a2g hl hm hs]
     exact⟨rfl,rfl,rfl,fun h=>by simp[Er.code] at h,by simp[Er.code]⟩
    | none=>
     obtain⟨acc',e3⟩:=h2 n hs;have e:d.kopen=(none,.file 7 n,d):=by rw[a1S e1 (by rw[e2,e3];simp),e2,e3]
     rw[e,a06 hl hm hs];exact⟨rfl,rfl,rfl,fun _=>rfl,by simp[Er.code]⟩
end
section
open Go.RowKit Go.Lib Pl
def b7u(r:Option (Nat×List Int))(w:World)(e:Ending)(w':World):Prop:=
 ∃g v b,e=.returned (.tuple #[.int .u64 g,v,.bool b])/\Ext w w'/\
  ((r=none/\g=0/\v=.slice none 0 0/\b=false)\/(∃gen ids,r=some (gen,ids)/\g=(gen:Int)/\b=true/\OwnI w' w.heap.size v ids))
theorem a8P(v:Value)(l:List UInt8)(w:World)(h:Bytes w v l):
 Calls Tryz.prog 32 #[v] w (b7u (readMan l) w):=by
 obtain⟨i0,hi,hz0,hz1,hz2⟩:=info_parts a8t;obtain⟨a,cap,rfl,h1,h2,h3⟩:=id h;clear h3;by_cases c0:l.length<14
 ·have hd:readMan l=none:=Y1 (a2t (by omega));clear h;go_enter Tryz.func32,Tryz.ntmps32
  go_wp2;go_ret3
  exact⟨0,_,_,rfl,Ext.refl w,Or.inl ⟨hd,rfl,rfl,rfl⟩⟩
 obtain⟨ad,rfl⟩:∃ad,a=some ad:=by
  cases a with
  | none=>have:=h2.2 rfl;omega
  | some ad=>exact⟨ad,rfl⟩
 have HB:=Lib.hid h;clear h;have h14:14<=l.length:=by omega
 have hcn:=cnt_lt l;have hwn:IntKind.i64.wrap (cnt l:Int)=(cnt l:Int):=IntWalk.i64_in _ (by omega);have hsl:∀W:World,Ext w W->∀i j,0<i->i<=j->j<=l.length->i<cap->Bytes W (.slice (some ⟨ad.block,ad.off+i,none⟩) (j - i) (cap - i)) ((l.take j).drop i):=by
  intro W hW i j h0 hij hj hc;have:=(HB.out.ext hW).sliced i j hij hj;rw[if_neg (by omega)] at this;have e:(some ad).map (·.add i)=some ⟨ad.block,ad.off+i,none⟩:=by
   show some (ad.add i)=_;unfold Addr.add;rw[if_neg (by omega)]
  rw[e] at this;exact this
 have HS:=Lib.hid hsl;clear hsl;have e12:num ((l.take 14).drop 12)=cnt l:=by unfold cnt;rw[List.drop_take]
 have hcap:14<=cap:=by omega
 have c1:=V7 _ ((l.take 14).drop 12) w (HS.out _ (Ext.refl w) 12 14 (by omega) (by omega) (by omega) (by omega)) (by simp;omega);rw[e12] at c1;have HC1:=Lib.hid c1;clear c1 e12;go_enter Tryz.func32,Tryz.ntmps32
 go_wp2_with fail
 refine HC1.out.mono ?_;rintro e W ⟨rfl,hw⟩;subst hw;have c2:=a2h _ (l.drop 4) w (by
  have:=HS.out _ (Ext.refl w) 4 l.length (by omega) (by omega) (Nat.le_refl _) (by omega);rw[List.take_length] at this;exact this)
 have HC2:=Lib.hid c2;clear c2;have hw4:IntKind.i64.wrap (4*(cnt l:Int))=4*(cnt l:Int):=IntWalk.i64_in _ (by omega);have hw14:IntKind.i64.wrap (14+4*(cnt l:Int))=14+4*(cnt l:Int):=IntWalk.i64_in _ (by omega);go_wp2_with fail
 refine HC2.out.mono ?_;rintro e W ⟨rfl,hw⟩;subst hw;by_cases c3:l.length=14+4*cnt l
 case neg=>
  have hd:readMan l=none:=Y1 (a2t (by omega));have hne:((l.length:Int) != 14+4*(cnt l:Int))=true:=by rw[bne,beq_eq_false_iff_ne.2 (by omega)];rfl
  go_wp2;go_ret3
  exact⟨0,_,_,rfl,Ext.refl w,Or.inl ⟨hd,rfl,rfl,rfl⟩⟩
 have heq:((l.length:Int) != 14+4*(cnt l:Int))=false:=by rw[bne,beq_iff_eq.2 (by omega)];rfl
 have HL:=Lib.hid c3;clear c3;have c4:=V7 _ (l.take 4) w (by
  have:=(HB.out).sliced 0 4 (by omega) (by omega);rw[if_neg (by omega)] at this;exact this) (by simp;omega)
 have HC4:=Lib.hid c4;clear c4;have hm1:num (l.take 4)<4294967296:=O0 l 4;go_wp2_with fail
 refine HC4.out.mono ?_;rintro e W ⟨rfl,hw⟩;subst hw;have hwc:IntKind.u64.wrap (crc (l.drop 4):Int)=(crc (l.drop 4):Int):=by
  have:=a4a (l.drop 4);rw[IntKind.wrap_u64];omega
 by_cases hcr:crc (l.drop 4)=num (l.take 4)
 case neg=>
  have hcr':((num (l.take 4):Int) != (crc (l.drop 4):Int))=true:=by rw[bne,beq_eq_false_iff_ne.2 (by omega)];rfl
  have hd:readMan l=none:=Y1 (a7f hcr);go_wp2;go_ret3
  exact⟨0,_,_,rfl,Ext.refl w,Or.inl ⟨hd,rfl,rfl,rfl⟩⟩
 have hcr':((num (l.take 4):Int) != (crc (l.drop 4):Int))=false:=by rw[bne,beq_iff_eq.2 (by omega)];rfl
 have HCR:=Lib.hid hcr;clear hcr;go_wp2;go_loopw [7,8] (fun u i wr=>∃k:Nat,k<=cnt l/\i=.int .i64 k/\OwnI wr w.heap.size u (Y0 l k)/\Ext w wr) (fun _ i _=>cnt l - (intOf i).toNat)
 case atStart=>exact⟨0,Nat.zero_le _,rfl,⟨rfl,Or.inl ⟨rfl,rfl⟩⟩,Ext.refl w⟩
 case round=>
  obtain⟨k,hk,rfl,hO,hE⟩:=hrel;by_cases hlt:k<cnt l
  ·have hl:=HL.out;have e4:num ((l.take (18+4*k)).drop (14+4*k))=a8M l k:=by unfold a8M;rw[List.drop_take];congr 2;omega
   have c5:=V7 (.slice (some (ad.add (14+4*k))) (18+4*k - (14+4*k)) (cap - (14+4*k))) ((l.take (18+4*k)).drop (14+4*k)) wr (by
    have:=(HB.out.ext hE).sliced (14+4*k) (18+4*k) (by omega) (by omega);rw[if_neg (by omega)] at this;exact this) (by simp;omega)
   rw[e4] at c5;have HC5:=Lib.hid c5;have HO:=Lib.hid hO;have HE:=Lib.hid hE;have hix:=b5J l k;have hwx:IntKind.i64.wrap (a8M l k:Int)=(a8M l k:Int):=IntWalk.i64_in _ (by omega);have hsn:(Y0 l (k+1)).map (Value.int .i64)=(Y0 l k).map (Value.int .i64)++[Value.int .i64 (a8M l k)]:=by rw[a8N,List.map_append];rfl
   have HSN:=Lib.hid hsn;have hk4:IntKind.i64.wrap (4*(k:Int))=4*(k:Int):=IntWalk.i64_in _ (by omega);have hk14:IntKind.i64.wrap (14+4*(k:Int))=14+4*(k:Int):=IntWalk.i64_in _ (by omega);have hk18:IntKind.i64.wrap (18+4*(k:Int))=18+4*(k:Int):=IntWalk.i64_in _ (by omega);have hlc:18+4*k<=cap:=by omega
   have hcl:cnt l<65536:=hcn;clear c5 hO hE e4 hsn hl heq hcr';have hsz:=HE.out.size;obtain⟨ua,uc,rfl⟩:=ownsRow_form HO.out;go_wp2_with fail
   refine HC5.out.mono ?_;rintro e W5 ⟨rfl,hw5⟩;subst hw5;go_wp2_with (at_builtin;go_must (refine H5 rfl _ _ 69 rfl w.heap.size 3 i0 (.int .i64 0) 1 8 Tryz.underlying69 hi hz0 hz1 hz2 rfl (by omega) (.slice ua (Y0 l k).length uc) (Y0 l k).length _ rfl (HO.out.alloc (.cells #[.int .i64 (a8M l k)] 3)) (.slice (some ⟨wr.heap.size,0,none⟩) 1 1) 1 [.int .i64 (a8M l k)] rfl ⟨_,_,rfl,by omega,⟨by omega,fun h=>by cases h⟩,fun _=>⟨_,rfl,World.news_of_block (cs:=#[.int .i64 (a8M l k)]) (t:=3) (fr:=(0,0)) (heap_alloc_new wr _)⟩⟩ rfl (by simp[Value.oneCell']) (by rw[a1L];unfold maxLen;omega) (by rw[a1L];omega) (by simp;omega) ?_);intro b6 c6 w6 hown6 hgrow6 hat6;clear hat6)
   have hO6:OwnI w6 w.heap.size (.slice b6 ((Y0 l k).length+1) c6) (Y0 l (k+1)):=by
    unfold OwnI;rw[HSN.out,show(Y0 l (k+1)).length=(Y0 l k).length+1 by rw[a1L,a1L]];exact hown6
   have hE6:Ext w w6:=Below.grown (HE.out.new _) hgrow6 (by simp;omega) (fun r hr=>(HO.out.lt r hr).1);go_roundw
   case rel=>exact⟨k+1,by omega,by go_num,hO6,hE6⟩
   case measure=>simp[intOf];omega
  ·obtain rfl:k=cnt l:=by omega
   have hwf:∀n∈Y0 l (cnt l),(Lit.int .i64 n).wf=true:=fun n hn=>b23 (b21 l _ n hn);have c7:=a5K u7 (Y0 l (cnt l)) wr hO.ints;have HC7:=Lib.hid c7;have HO:=Lib.hid hO;have HE:=Lib.hid hE;clear c7 hO hE hwf;go_wp2_with fail
   refine HC7.out.mono ?_;rintro e W7 ⟨rfl,q,hq⟩;have hE7:Ext wr W7:=by rw[hq];exact Ext.drewN _ _
   clear hq;have hO7:OwnI W7 w.heap.size u7 (Y0 l (cnt l)):=ownsRow_below HO.out hE7;have hX7:Ext w W7:=Ext.trans HE.out hE7;have HO7:=Lib.hid hO7;have HX7:=Lib.hid hX7
   cases hok:a0b (Y0 l (cnt l)) with
   | false=>
    have hd:readMan l=none:=Y1 (a7g hok);clear hE7 hO7 hX7;go_wp2;go_ret3
    exact⟨0,_,_,rfl,HX7.out,Or.inl ⟨hd,rfl,rfl,rfl⟩⟩
   | true=>
    have hd:readMan l=some (num ((l.drop 4).take 8),Y0 l (cnt l)):=a5I h14 HL.out HCR.out hok;have c8:=V7 _ ((l.take 12).drop 4) W7 (HS.out _ hX7 4 12 (by omega) (by omega) (by omega) (by omega)) (by simp;omega);rw[show num ((l.take 12).drop 4)=num ((l.drop 4).take 8) by rw[List.drop_take]] at c8;have HC8:=Lib.hid c8;have HD:=Lib.hid hd;clear hE7 hO7 hX7 c8 hd;go_wp2_with fail
    refine HC8.out.mono ?_;rintro e W8 ⟨rfl,hw8⟩;subst hw8;go_wp2;go_ret3
    exact⟨_,_,_,rfl,HX7.out,Or.inr ⟨_,_,HD.out,rfl,rfl,HO7.out⟩⟩
end
end Go.Proofs.YtgpbhjjajpbeeaaGreatDoor
