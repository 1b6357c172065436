/- A part of what the last file proves. -/
import Derived.Test.YtgpbhjjajpbeeaaGreatDoorK30
set_option linter.all false
set_option maxRecDepth 100000
set_option maxHeartbeats 6400000
namespace Go.Proofs.YtgpbhjjajpbeeaaGreatDoor
section
open Go.RowKit Go.Lib Go.Maps Dk Pl
theorem b7A(rb gen n:Nat)(ids:List Int)(bss:List (List UInt8))(percent count:Int)(w:World)(h:a0C w rb gen ids bss)(hid:ids.length=n)(hn2:n<=1000)(hl:∀i,(bss.getD i []).length<=1099511627776):
 Calls Tryz.prog 26 #[l7 rb,.int .i64 percent,.int .i64 count] w fun e w'=>∃u,e=.returned u/\OwnI w' w.heap.size u (X3 percent count (U4 ids (y8 bss) n))/\Ext w w':=by
 obtain⟨i0,hi,hz0,hz1,hz2⟩:=info_parts a3q;have hst:=a8D rb gen ids bss w h (by omega) hl;rw[hid] at hst;have hbl:bss.length=n:=by obtain⟨_,_,_,_,_,e,_⟩:=h;rw[e,hid]
 have hfit:∀k,k<n->(statOf ids (y8 bss) k).Fit:=fun k hk=>a8b hl (by omega);have hlen:=a2h ids (y8 bss) n;have hat:∀k,k<n->(U4 ids (y8 bss) n)[k]?=some (statOf ids (y8 bss) k):=fun k hk=>by
  unfold U4;rw[List.getElem?_map,List.getElem?_range hk];rfl
 obtain⟨SL,hSL⟩:∃SL,U4 ids (y8 bss) n=SL:=⟨_,rfl⟩;rw[hSL] at hst hlen hat⊢;have HST:=Lib.hid hst;have HFIT:=Lib.hid hfit;have HAT:=Lib.hid hat;have HLEN:=Lib.hid hlen;clear h hl hst hfit hat hlen hSL hid hbl;unfold l7 at *;go_enter Tryz.func26,Tryz.ntmps26
 go_wp2_with fail
 refine HST.out.mono ?_;rintro e w1 ⟨u,rfl,hrow,hE1⟩;obtain⟨ua,uc,rfl⟩:=ownsRow_form hrow;have hsz1:=hE1.size;have HROW:=Lib.hid hrow;have HE1:=Lib.hid hE1;clear hrow hE1 HST;go_wp2_with fail
 go_loopw [7,9] (fun o i wr=>∃k:Nat,i=.int .i64 k/\k<=n/\OwnI wr w1.heap.size o (X3 percent count (SL.take k))/\Ext w1 wr) (fun _ i _=>n - (intOf i).toNat)
 case atStart=>exact⟨0,rfl,by omega,⟨rfl,Or.inl ⟨rfl,rfl⟩⟩,Ext.refl w1⟩
 case round=>
  obtain⟨k,rfl,hk,hown,hE⟩:=hrel;have hvl:(X3 percent count (SL.take k)).length<=k:=by
   unfold X3;rw[List.length_map];exact Nat.le_trans (List.length_filter_le _ _) (by rw[List.length_take];omega)
  by_cases hlt:k<n
  ·have ht:=HAT.out k hlt;obtain⟨f1,f2,f3,f4,f5⟩:=HFIT.out k hlt;have hrow:=HROW.out;rw[<-HLEN.out] at hrow;obtain⟨g,cap,hu,hcap,hgl,-,hcells⟩:=a4T a0S hrow ht;have hvs:=a7Q percent count SL k _ ht;obtain⟨T,hT⟩:∃T,statOf ids (y8 bss) k=T:=⟨_,rfl⟩;rw[hT] at f1 f2 f3 f4 f5 hcells hvs ht;obtain⟨ti,tr,tb,td,te⟩:=T;dsimp only at f1 f2 f3 f4 f5 hvs;injection hu with h1 h2 h3;subst h1;subst h3;have x0:=hE.cell (hcells 0 _ rfl);have x1:=hE.cell (hcells 1 _ rfl);have x2:=hE.cell (hcells 2 _ rfl);have x3:=hE.cell (hcells 3 _ rfl);have x4:=hE.cell (hcells 4 _ rfl);rw[Nat.add_zero] at x0;have hc2:n<=uc:=by rw[HLEN.out] at hcap;exact hcap
   have hki:(k:Int)<(n:Int):=by omega
   have hbx:j6 (wr.alloc (.cells #[.int .i64 ti,.int .i64 tr,.int .i64 tb,.int .i64 td,.int .i64 te] 68)) wr.heap.size 68 #[.int .i64 ti,.int .i64 tr,.int .i64 tb,.int .i64 td,.int .i64 te]:=j6.new _ _ rfl;have y0:=(hbx.cell 0).trans (show _=some (Value.int .i64 ti) from rfl);have y1:=(hbx.cell 1).trans (show _=some (Value.int .i64 tr) from rfl);have y2:=(hbx.cell 2).trans (show _=some (Value.int .i64 tb) from rfl);have y3:=(hbx.cell 3).trans (show _=some (Value.int .i64 td) from rfl);have y4:=(hbx.cell 4).trans (show _=some (Value.int .i64 te) from rfl);have hq:=b84 te tb;obtain⟨Q,hQ⟩:∃Q,te*100/tb=Q:=⟨_,rfl⟩;have hQb:Q<=109951162777600:=by rw[<-hQ];exact Nat.le_trans (Nat.div_le_self _ _) (by omega)
   have hvb:b3x percent count ⟨ti,tr,tb,td,te⟩=(decide (tr≠0)&&(decide (percent<=(Q:Int))||decide (count<=(td:Int)))):=by unfold b3x;dsimp only;rw[hQ]
   rw[hQ] at hq;have HO:=Lib.hid hown;have HE:=Lib.hid hE;have HVS:=Lib.hid hvs;have HVB:=Lib.hid hvb;clear hown hE hvs hvb hcells hrow ht hT hbx hQ HROW h2 hcap;dsimp only at x0 x1 x2 x3 x4;obtain⟨oa,oc,rfl⟩:=ownsRow_form HO.out;have hwr:w1.heap.size<=wr.heap.size:=HE.out.size;have ho1:OwnI (wr.alloc (.cells #[.int .i64 ti,.int .i64 tr,.int .i64 tb,.int .i64 td,.int .i64 te] 68)) w1.heap.size (.slice oa (X3 percent count (SL.take k)).length oc) (X3 percent count (SL.take k)):=World.ownsRow.alloc HO.out _;have HO1:=Lib.hid ho1;have hnw:((wr.alloc (.cells #[.int .i64 ti,.int .i64 tr,.int .i64 tb,.int .i64 td,.int .i64 te] 68)).alloc (.cells #[.int .i64 ti] 3)).heap[wr.heap.size+1]?=some (.cells #[.int .i64 ti] 3):=by
    have e:(wr.alloc (.cells #[.int .i64 ti,.int .i64 tr,.int .i64 tb,.int .i64 td,.int .i64 te] 68)).heap.size=wr.heap.size+1:=by simp
    rw[<-e];exact heap_alloc_new _ _
   clear ho1;by_cases r0:tr=0
   ·have r0i:(tr:Int)=0:=by omega
    go_wp2;go_roundw
    case rel=>
     refine⟨k+1,by go_num,by omega,?_,HE.out.new _⟩;rw[HVS.out,if_neg (by rw[HVB.out];simp[*]),List.append_nil]
     first
      | exact HO1.out
      | (have h:=HO1.out;rw[show(tr:Int)=0 by omega] at h;exact h)
    case measure=>simp[intOf];omega
   ·have r0i:¬(tr:Int)=0:=by omega
    have htb:¬(tb:Int)=0:=by have:=f5 (by omega);omega
    by_cases r1:percent<=(Q:Int)
    ·go_wp2_with (at_builtin;go_must (refine p8 rfl _ _ 69 rfl w1.heap.size 3 i0 (.int .i64 0) 1 8 Tryz.underlying69 hi hz0 hz1 hz2 rfl (by omega) (.slice oa (X3 percent count (SL.take k)).length oc) (X3 percent count (SL.take k)).length _ rfl (World.ownsRow.alloc HO1.out (.cells #[.int .i64 ti] 3)) (.slice (some ⟨wr.heap.size+1,0,none⟩) 1 1) 1 [.int .i64 ti] rfl ⟨_,_,rfl,by omega,⟨by omega,fun h=>by cases h⟩,fun _=>⟨_,rfl,World.news_of_block (cs:=#[.int .i64 ti]) (t:=3) (fr:=(0,0)) hnw⟩⟩ rfl (by simp[Value.oneCell']) (by unfold maxLen;omega) (by omega) (by simp;omega) ?_);intro b6 c6 w6 hown6 hgrow6 hat6;have HO6:=Lib.hid hown6;have HG6:=Lib.hid hgrow6;clear hown6 hgrow6 hat6)
     go_roundw
     case rel=>
      refine⟨k+1,by go_num,by omega,?_,?_⟩
      ·have:=HO6.out;rw[HVS.out,if_pos (by rw[HVB.out];simp[*])];unfold OwnI;rw[List.length_append,List.map_append];simpa using this
      ·exact Below.grown ((HE.out.new (.cells #[.int .i64 ti,.int .i64 tr,.int .i64 tb,.int .i64 td,.int .i64 te] 68)).new (.cells #[.int .i64 ti] 3)) HG6.out (by simp;omega) (fun j hj=>(World.ownsRow.lt HO.out j hj).1)
     case measure=>simp[intOf];omega
    ·by_cases r2:count<=(td:Int)
     ·go_wp2_with (at_builtin;go_must (refine p8 rfl _ _ 69 rfl w1.heap.size 3 i0 (.int .i64 0) 1 8 Tryz.underlying69 hi hz0 hz1 hz2 rfl (by omega) (.slice oa (X3 percent count (SL.take k)).length oc) (X3 percent count (SL.take k)).length _ rfl (World.ownsRow.alloc HO1.out (.cells #[.int .i64 ti] 3)) (.slice (some ⟨wr.heap.size+1,0,none⟩) 1 1) 1 [.int .i64 ti] rfl ⟨_,_,rfl,by omega,⟨by omega,fun h=>by cases h⟩,fun _=>⟨_,rfl,World.news_of_block (cs:=#[.int .i64 ti]) (t:=3) (fr:=(0,0)) hnw⟩⟩ rfl (by simp[Value.oneCell']) (by unfold maxLen;omega) (by omega) (by simp;omega) ?_);intro b6 c6 w6 hown6 hgrow6 hat6;have HO6:=Lib.hid hown6;have HG6:=Lib.hid hgrow6;clear hown6 hgrow6 hat6)
      go_roundw
      case rel=>
       refine⟨k+1,by go_num,by omega,?_,?_⟩
       ·have:=HO6.out;rw[HVS.out,if_pos (by rw[HVB.out];simp[*])];unfold OwnI;rw[List.length_append,List.map_append];simpa using this
       ·exact Below.grown ((HE.out.new (.cells #[.int .i64 ti,.int .i64 tr,.int .i64 tb,.int .i64 td,.int .i64 te] 68)).new (.cells #[.int .i64 ti] 3)) HG6.out (by simp;omega) (fun j hj=>(World.ownsRow.lt HO.out j hj).1)
      case measure=>simp[intOf];omega
     ·go_wp2;go_roundw
      case rel=>
       refine⟨k+1,by go_num,by omega,?_,HE.out.new _⟩;rw[HVS.out,if_neg (by rw[HVB.out];simp[*]),List.append_nil]
       first
        | exact HO1.out
        | (have h:=HO1.out;rw[show(tr:Int)=0 by omega] at h;exact h)
      case measure=>simp[intOf];omega
  ·obtain rfl:k=n:=by omega
   have htk:SL.take k=SL:=List.take_of_length_le (by rw[HLEN.out];exact Nat.le_refl _);rw[htk] at hown;have HF:=Lib.hid hown;have HE:=Lib.hid (HE1.out.trans hE);clear hown hE;go_wp2;go_ret;exact⟨_,rfl,I6 HF.out hsz1,HE.out⟩
end
section
open Go.RowKit Go.Lib Go.Maps Dk Pl
open Zn (tp Full WPs)
open To (wpT wpT_lone O1 Iv a6P)
section
theorem b6H{d:D}{M:Nat}(hw:d.Wf)(h:∀x∈d.ids,(d.node x).data.length<=M)(n:Nm):(d.whole n).1.length<=M:=by
 have key:∀(D':D),a1R d D'->∀i k,(D'.readAt n i k).1.length<=M:=by
  intro D' hs i k;unfold D.readAt D.find;split
  ·exact Nat.zero_le _
  ·rename_i o e d1 he;split at he
   ·cases he
   ·cases hl:q9 D'.now n with
    | none=>rw[hl] at he;cases he
    | some x=>
     rw[hl] at he;injection he with h1 h2;injection h1 with h1;injection h2 with h2 h3;subst h1 h3;have hx:x∈d.ids:=by
      have:=a0i hl;rw[hs.now] at this;exact hw.now _ this
     have hf:=D'.fails_same;have hb:((D'.fails.2).node x).data.length<=M:=by rw[hf.node,hs.node];exact h x hx
     refine Nat.le_trans ?_ hb;show(Dk.part _ _ _).length<=_;unfold Dk.part;rw[List.length_take,List.length_drop];omega
 unfold D.whole;obtain⟨⟨k,e,d1⟩,hr⟩:∃r,d.size n=r:=⟨_,rfl⟩;have hs:=d.size_same n;rw[hr] at hs⊢
 cases e with
 | ok=>exact key d1 hs 0 k
 | num n=>exact Nat.zero_le _
 | file n m=>exact Nat.zero_le _
theorem b6I{M:Nat}:∀(ids:List Int){d:D}{acc:List (List UInt8)},d.Wf->(∀x∈d.ids,(d.node x).data.length<=M)->(∀l∈acc,l.length<=M)->∀l∈(D.opensAcc ids d acc).1,l.length<=M:=by
 intro ids
 induction ids with
 | nil=>exact fun _ _ h=>h
 | cons id ids ih=>
  intro d acc hw hd ha;have hl:=b6H hw hd (C8 H5 id.toNat);have hs:=d.whole_same (C8 H5 id.toNat);obtain⟨⟨b,e,d1⟩,hr⟩:∃r,d.whole (C8 H5 id.toNat)=r:=⟨_,rfl⟩;rw[hr] at hl hs;by_cases he:e=.ok
  ·subst he;rw[a3o hr];refine ih ⟨?_,?_,?_,?_,?_⟩ (fun x hx=>?_) fun l h=>?_
   ·intro p hp;have e1:d1.now=d.now:=hs.now;have e2:d1.ids=d.ids:=hs.ids;rw[e2];rw[e1] at hp;exact hw.now p hp
   ·intro p hp;have e1:d1.safe=d.safe:=hs.safe;have e2:d1.ids=d.ids:=hs.ids;rw[e2];rw[e1] at hp;exact hw.safe p hp
   ·intro p hp;have e1:d1.moves=d.moves:=hs.moves;have e2:d1.ids=d.ids:=hs.ids;rw[e2];rw[e1] at hp;exact hw.moves p hp
   ·intro p hp;have e1:d1.node=d.node:=hs.node;have e2:d1.ids=d.ids:=hs.ids;rw[e1];rw[e2] at hp;exact hw.part p hp
   ·have e2:d1.ids=d.ids:=hs.ids;rw[e2];exact hw.ids
   ·have e1:d1.node=d.node:=hs.node;have e2:d1.ids=d.ids:=hs.ids;rw[e1];rw[e2] at hx;exact hd x hx
   ·rcases List.mem_append.1 h with h|h
    ·exact ha l h
    ·obtain rfl:=List.mem_singleton.1 h;exact hl
  ·rw[a1d hr he];exact ha
theorem a1S{w:World}{b c:Nat}{x y:Array Value}{e f:TypeId}{p q:Nat×Nat}(h:w.heap[b]?=some (.cells x e p))(h':w.heap[c]?=some (.cells y f q))(hne:e≠f):b≠c:=by
 rintro rfl;rw[h] at h';injection h' with h';injection h' with h1 h2 h3;exact hne h2
def c47(fb rb:Nat)(vs:List Value)(b:Nat):Prop:=b=fb\/b=rb\/∃(j:Nat)(u:Value),vs[j]?=some u/\u.ownBlock=some b
theorem Hd.ph{F Sh:Nat->Prop}{a:Nat}{d d2:D}{w w':World}{T:Array Value}{gen:Nat}{ids:List Int}{bss:List (List UInt8)}{mb fb rb sx sb Cb:Nat}{ia:Option Addr}{ic:Nat}{vs:List Value}(h:Hd F a d w T w' gen ids bss mb fb rb sx sb Cb ia ic vs d2)
 (W:WPs zone Sh w')(hSh:∀b,Sh b->b<w.heap.size)(hgl:Tryz.prog.globals.size<=w.heap.size)(hlen:∀l∈bss,l.length<=1099511627776):
 ∃g c2,Ph w' Sh Cb fb rb ids.length ids.length mb sx sb g ids.length c2 ids bss (c47 fb rb vs):=by
 obtain⟨n1,n2,n3,n4,n5,n6⟩:=h.new;have ns:∀b,w.heap.size<=b->¬Sh b:=fun b hb hs=>by have:=hSh b hs;omega
 have hC:=h.hcb;have hmb:w'.heap[mb]?=some (.cells #[.int .u64 gen,.slice ia ids.length ic] 125):=h.hmb;have hfb:w'.heap[fb]?=some (.cells #[.slice (some ⟨rb,0,none⟩) ids.length ids.length] 128):=h.hfb;have hsx:w'.heap[sx]?=some (.cells #[.pointer (some ⟨sb,0,none⟩)] 32):=h.hsx;have hsb:w'.heap[sb]?=some (.cells #[l7 a,.int .u64 gen,.slice ia ids.length ic,.slice (some ⟨Cb,0,none⟩) ids.length ids.length,.map none,.int .i64 0] 138):=h.hsb;have hrb:=h.hrow.row;have hn:=h.idsIn.1;have hvb:∀(j:Nat)(u:Value),vs[j]?=some u->∃b,bss[j]?=some b:=fun j u hu=>by
  have:=(List.getElem?_eq_some_iff.1 hu).1;rw[h.hrow.len] at this;exact⟨_,List.getElem?_eq_getElem this⟩
 have hic:∃g c2,0<ids.length->ids.length<=c2/\g<w'.heap.size/\g≠Cb/\¬Sh g/\(.slice ia ids.length ic:Value)=.slice (some ⟨g,0,none⟩) ids.length c2/\∀i,i<ids.length->w'.cell? ⟨g,i,none⟩=some (.int .i64 (ids.getD i 0)):=by
  rcases h.hids.2 with⟨_,h0⟩|⟨g,cap,cur,he,hg,hb,h1,h2,h3,h4⟩
  ·exact⟨0,0,fun h=>by omega⟩
  ·refine⟨g,cap,fun _=>⟨h1,Bi.lt_of_some hb,a1S hb hC (by decide),ns g hg,he,fun i hi=>?_⟩⟩;have e1:(ids.map (Value.int .i64))[i]?=some (.int .i64 (ids.getD i 0)):=by
    rw[List.getElem?_map,List.getElem?_eq_getElem hi];simp[List.getD,List.getElem?_eq_getElem hi]
   rw[<-h4,List.getElem?_take,if_pos (by omega),Array.getElem?_toList] at e1;simp[World.cell?,hb,e1]
 obtain⟨g,c2,hic⟩:=hic;refine⟨g,c2,W,Nat.le_trans hgl h.chh.size,⟨by omega,Nat.le_refl _,Nat.le_refl _,fun h=>(hic h).1⟩,hfb,.inl rfl,?_,?_,?_,?_,?_,?_,?_⟩
 ·rintro b (rfl|rfl|⟨j,u,hu,hb⟩)
  ·refine⟨by omega,Bi.lt_of_some hfb,a1S hfb hC (by decide),ns _ n2,_,_,_,hfb,fun v hv=>?_⟩;obtain rfl:v=.slice (some ⟨rb,0,none⟩) ids.length ids.length:=by simpa using hv
   exact .slice _ _ _ (.inr (.inl rfl))
  ·refine⟨by omega,Bi.lt_of_some hrb,a1S hrb hC (by decide),ns _ n3,_,_,_,hrb,fun v hv=>?_⟩;replace hv:v∈vs++List.replicate (ids.length - bss.length) (Value.slice none 0 0):=by simpa using hv
   rcases List.mem_append.1 hv with hv|hv
   ·obtain⟨j,hj⟩:=List.getElem?_of_mem hv;obtain⟨l,hl⟩:=hvb j v hj;obtain⟨o1,o2⟩:=h.hrow.at_ j v l hj hl;rcases o1.2 with⟨rfl,_⟩|⟨g',cap,cur,rfl,_⟩
    ·exact .snil _ _
    ·exact .slice _ _ _ (.inr (.inr ⟨j,_,hj,rfl⟩))
   ·rw[List.eq_of_mem_replicate hv];exact .snil _ _
  ·obtain⟨l,hl⟩:=hvb j u hu;obtain⟨o1,o2⟩:=h.hrow.at_ j u l hu hl;rcases o1.2 with⟨rfl,_⟩|⟨g',cap,cur,rfl,hg,hcells,_⟩
   ·cases hb
   ·obtain rfl:g'=b:=by simpa [Value.ownBlock] using hb
    refine⟨by omega,Bi.lt_of_some hcells,a1S hcells hC (by decide),ns _ hg,_,_,_,hcells,fun v hv=>?_⟩;obtain⟨k,rfl⟩:=o2 _ _ _ _ rfl hcells v hv;exact .int _ _
 ·intro i hi;have hb:i<bss.length:=by rw[h.hbss];exact hi
  have hv:i<vs.length:=by rw[h.hrow.len];exact hb
  obtain⟨o1,-⟩:=h.hrow.at_ i vs[i] bss[i] (List.getElem?_eq_getElem hv) (List.getElem?_eq_getElem hb);refine⟨vs[i],?_,?_,?_⟩
  ·simp[World.cell?,hrb,List.getElem?_append_left hv,hv]
  ·simpa [List.getD,List.getElem?_eq_getElem hb] using o1.bytes
  ·simpa [List.getD,List.getElem?_eq_getElem hb] using hlen _ (List.getElem_mem hb)
 ·refine⟨Bi.lt_of_some hmb,a1S hmb hC (by decide),ns _ n1,fun h0=>?_⟩;rw[<-(hic h0).2.2.2.2.1];simp[World.cell?,hmb]
 ·exact⟨Bi.lt_of_some hsx,a1S hsx hC (by decide),ns _ n4,by simp[World.cell?,hsx]⟩
 ·exact⟨Bi.lt_of_some hsb,a1S hsb hC (by decide),ns _ n5,by simp[World.cell?,hsb]⟩
 ·exact fun h0=>let ⟨_,a2,a3,a4,_,a6⟩:=hic h0;⟨a2,a3,a4,a6⟩
 ·refine⟨ns _ n6,_,hC,?_⟩;simp[madeCells];omega
end
end
section
open Go.RowKit Go.Lib Go.Maps Dk Pl
open Go.Conc Go.Mw
open Zn (tp Full WPs VP Zf Le)
open To (wpT wpT_lone O1 Iv a6P To at_)
structure Jn(w:World)(Sh:Nat->Prop)(Cb n:Nat)(ids:List Int)(bss:List (List UInt8))(T:Array Value)(T':Array Value)(w':World)(Sh':Nat->Prop):Prop where
 hs:T'.size=118
 t11:T'[11]?=T[11]?
 t12:T'[12]?=some (.pointer (some ⟨w.heap.size,0,none⟩))
 al:∃v:Int,w'.heap[w.heap.size]?=some (.cells #[.int .i64 v] 143)
 segs:a0J w' Cb n ids bss
 segsNew:∀i u g,i<n->w'.cell? ⟨Cb,2*i+1,none⟩=some u->u.ownBlock=some g->w.heap.size<=g
 old:∀e,e<w.heap.size->e≠Cb->w'.heap[e]?=w.heap[e]?
 size:w.heap.size<=w'.heap.size
 os:w'.os=w.os
 output:w'.output=w.output
 shUp:∀b,Sh b->Sh' b
 shOld:∀b,b<w.heap.size->Sh' b->Sh b
def ShJ(w w':World)(Sh:Nat->Prop)(n:Nat)(O:Nat->Nat->Prop)(bx:Nat->Nat)(b:Nat):Prop:=Sh b\/(w.heap.size+1<=b/\b<w'.heap.size/\¬∃i,i<n/\(O i b\/b=bx i))
theorem b9e{w w':World}{Sh:Nat->Prop}{Cb n:Nat}{ids:List Int}{bss:List (List UInt8)}{O:Nat->Nat->Prop}{bx:Nat->Nat}(W:WPs zone Sh w)(hC:¬Sh Cb)(hCl:Cb<w.heap.size)
 (hel:∀e,e<w.heap.size->e≠Cb->w'.heap[e]?=w.heap[e]?)(hR:∀i,i<n->a4U w Sh Cb ids bss i (bx i) (O i) w')(hO:∀i b,O i b->w.heap.size+2<=b/\b<w'.heap.size)
 (hal:∃v:Int,w'.heap[w.heap.size]?=some (.cells #[.int .i64 v] 143))(hcb:∃cs:Array Value,w'.heap[Cb]?=some (.cells cs 154)/\cs.size=2*n)(hsz:w.heap.size+2<=w'.heap.size):WPs zone (ShJ w w' Sh n O bx) w':=by
 have old:∀b,b<w.heap.size->ShJ w w' Sh n O bx b->Sh b:=fun b hb h=>h.elim id fun h=>by omega
 have hle:Le (Zf zone Sh w.heap.size) (Zf zone (ShJ w w' Sh n O bx) w'.heap.size):=⟨rfl,rfl,rfl,fun b h=>⟨Nat.lt_of_lt_of_le h.1 (by omega),fun hs=>h.2 (old b h.1 hs)⟩⟩;have own:∀i b,i<n->(O i b\/b=bx i)->b<w'.heap.size/\¬ShJ w w' Sh n O bx b:=fun i b hi h=>by
  have hb:w.heap.size+2<=b/\b<w'.heap.size:=h.elim (hO i b) fun e=>by
   obtain⟨-,-,-,h4,h5⟩:=hR i hi;rw[e];exact⟨h4,Bi.lt_of_some h5⟩
  refine⟨hb.2,?_⟩;rintro(hs|⟨-,-,h3⟩)
  ·have:=W.sh b hs;omega
  ·exact h3 ⟨i,hi,h⟩
 refine⟨fun b o hb hs ho=>?_,fun b h=>?_,fun b h=>?_⟩
 ·by_cases hbl:b<w.heap.size
  ·by_cases hbC:b=Cb
   ·subst hbC;obtain⟨cs,h1,h2⟩:=hcb;rw[h1] at ho;injection ho with ho;subst ho;refine .cells _ _ _ fun v hv=>?_;obtain⟨k,hk,rfl⟩:=Array.mem_iff_getElem.1 hv;have hi:k/2<n:=by omega
    obtain⟨r1,⟨u,r2,r3,r4⟩,-⟩:=hR (k/2) hi;have hcell:w'.cell? ⟨b,k,none⟩=some cs[k]:=by simp[World.cell?,h1,hk]
    rcases Nat.mod_two_eq_zero_or_one k with hm|hm
    ·have e:2*(k/2)=k:=by omega
     rw[e,hcell] at r1;injection r1 with r1;rw[r1];exact .int _ _
    ·have e:2*(k/2)+1=k:=by omega
     rw[e,hcell] at r2;injection r2 with r2;rw[r2];rcases r3.2 with⟨rfl,_⟩|⟨g,cap,cur,fr,rfl,_⟩
     ·exact .snil _ _
     ·exact .slice _ _ _ (own _ g hi (.inl (r4 g rfl)))
   ·rw[hel b hbl hbC] at ho;exact(W.obj b o hbl (fun h=>hs (.inl h)) ho).mono hle
  ·by_cases hb0:b=w.heap.size
   ·subst hb0;obtain⟨v,h1⟩:=hal;rw[h1] at ho;injection ho with ho;subst ho;refine .cells _ _ _ fun x hx=>?_;obtain rfl:x=.int .i64 v:=by simpa using hx
    exact .int _ _
   ·have hex:∃i,i<n/\(O i b\/b=bx i):=Classical.byContradiction fun h=>hs (.inr ⟨by omega,hb,h⟩);obtain⟨i,hi,h⟩:=hex;obtain⟨-,-,r3,-,r5⟩:=hR i hi;rcases h with h|rfl
    ·obtain⟨o',h1,h2⟩:=r3 b h;rw[h1] at ho;injection ho with ho;subst ho;have hle2:Le {zone with D:=fun c=>(c<w.heap.size/\c≠Cb/\¬Sh c)\/c=bx i\/O i c} (Zf zone (ShJ w w' Sh n O bx) w'.heap.size):=by
      refine⟨rfl,rfl,rfl,fun c hc=>?_⟩;rcases hc with⟨c1,c2,c3⟩|h
      ·exact⟨by omega,fun hs=>c3 (old c c1 hs)⟩
      ·exact own i c hi h.symm
     exact Zn.ObjP.mono hle2 h2
    ·rw[r5] at ho;injection ho with ho;subst ho;refine .cells _ _ _ fun x hx=>?_;obtain rfl:x=.int .i64 i:=by simpa using hx
     exact .int _ _
 ·rcases h with h|h
  ·have:=W.sh b h;omega
  ·exact h.2.1
 ·obtain⟨h1,h2⟩:=W.base b h;exact⟨by omega,fun hs=>h2 (old b h1 hs)⟩
theorem c4u{k:Nat}(h:fX k=true)(h2:k≠12):kb k=true:=by
 cases h3:kb k with
 | true=>rfl
 | false=>
  unfold kb at h3;simp at h3;exfalso;have h3:k=12\/k=13\/k=14\/k=70\/k=71\/k=72\/k=73\/k=74\/k=75\/k=76\/k=77\/k=78:=by omega
  rcases h3 with rfl|rfl|rfl|rfl|rfl|rfl|rfl|rfl|rfl|rfl|rfl|rfl;all_goals first|exact h2 rfl|(revert h;decide)
variable[Go.ConcR.Payload][To.Lo]
theorem b6J{Sh:Nat->Prop}{Q:Exit->Act->World->(Nat->Prop)->Prop}{w:World}{Cb fb rb n fc mb sx sb ic c1 c2:Nat}{ids:List Int}{bss:List (List UInt8)}{DB:Nat->Prop}{T:Array Value}(h:Ph w Sh Cb fb rb n fc mb sx sb ic c1 c2 ids bss DB)(hI:Iv zone Sh Full ⟨T,[]⟩ w)
 (hT:T.size=118)(h4:T[4]?=some (.pointer (some ⟨mb,0,none⟩)))(h6:T[6]?=some (.pointer (some ⟨fb,0,none⟩)))(h11:T[11]?=some (.pointer (some ⟨sx,0,none⟩)))
 (hnext:∀T' w' Sh',Jn w Sh Cb n ids bss T T' w' Sh'->Iv zone Sh' (fun k=>fX k=true) ⟨T',[]⟩ w'->wpT Tryz.prog 14 (D8 10) Q ⟨T',[]⟩ w' Sh'):wpT Tryz.prog 14 (D8 6) Q ⟨T,[]⟩ w Sh:=by
 intro b K cs Ψ hb hk hc;obtain⟨hCS,cs0,hC0,hCs⟩:=h.hcb;have hCl:Cb<w.heap.size:=Bi.lt_of_some hC0;obtain⟨df1,df2,df3,df4,-⟩:=h.hDB fb h.DBfb;have eb:∀(a:Act)(k:List Item),b.at a k=(base 14).at a k:=fun a k=>by
  unfold Frame.at;rw[hb,hk];rfl
 rw[eb];refine b36 (Res:=a4U w Sh Cb ids bss) h.W.sh h.fbh df4 ⟨cs0,hC0,hCs⟩ hCS df3 h.hn.1 a95 hT h4 h6 h11 (fun c i b w' a1 a2 a3 a4 a5 a6 a7 a8=>b6U (fun b hb=>hb.2) h a1 a2 a3 a4 a5 a6 a7 a8) ?_;intro w' T' O bx hl hel hR hO hd hal hcb hsz hos hou;have hW:=b9e h.W hCS hCl hel hR hO hal hcb hsz;have old:∀b,b<w.heap.size->ShJ w w' Sh n O bx b->Sh b:=fun b hb h=>h.elim id fun h=>by omega
 have hAl:¬ShJ w w' Sh n O bx w.heap.size:=fun h=>h.elim (fun h'=>by have:=hI.W.sh _ h';omega) fun h=>by omega
 refine⟨ShJ w w' Sh n O bx,fun b h=>.inl h,.inr ⟨Nat.le_refl _,by omega,?_⟩,?_⟩
 ·rintro⟨i,hi,h|h⟩
  ·have:=hO i _ h;omega
  ·have:=(hR i hi).2.2.2.1;omega
 ·unfold joined;refine To.move rfl (fun _=>stepG_region_end) ?_;have eT:Act.put ⟨T',[]⟩ (some 78) (.tuple #[])=⟨T'.setIfInBounds 78 (.tuple #[]),[]⟩:=rfl;rw[eT,<-eb];have g:∀k,k≠78->(T'.setIfInBounds 78 (.tuple #[]))[k]?=T'[k]?:=fun k hk=>Array.getElem?_setIfInBounds_ne (Ne.symm hk);refine hnext _ w' (ShJ w w' Sh n O bx) ⟨by simp[hl.size],?_,?_,hal,?_,?_,hel,by omega,hos,hou,fun b h=>.inl h,old⟩ ⟨fun t ht=>?_,fun d hd=>(by cases hd),hW⟩ b K cs Ψ hb hk hc
  ·exact(g 11 (by decide)).trans (hl.keep 11 (by decide))
  ·exact(g 12 (by decide)).trans hl.t12
  ·intro i hi;obtain⟨r1,⟨u,r2,r3,-⟩,-⟩:=hR i hi;exact⟨r1,u,r2,r3⟩
  ·intro i u g hi hu hg;obtain⟨-,⟨u',r2,-,r4⟩,-⟩:=hR i hi;rw[hu] at r2;injection r2 with r2;subst r2;have:=hO i g (r4 g hg);omega
  ·show VP _ ((T'.setIfInBounds 78 (.tuple #[])).getD t undef);have h78:t≠78:=by rintro rfl;revert ht;decide
   rw[Array.getD_eq_getD_getElem?,g t h78];by_cases h12:t=12
   ·subst h12;rw[hl.t12];exact .ptr _ ⟨by show w.heap.size<_;omega,hAl⟩
   ·rw[hl.keep t (c4u ht h12),<-Array.getD_eq_getD_getElem?];have hle:Le (Zf zone Sh w.heap.size) (Zf zone (ShJ w w' Sh n O bx) w'.heap.size):=⟨rfl,rfl,rfl,fun b h=>⟨Nat.lt_of_lt_of_le h.1 (by omega),fun hs=>h.2 (old b h.1 hs)⟩⟩;exact(hI.tmps t trivial).mono hle
end
section
open Go.RowKit Go.Lib Go.Maps Dk Pl
open Go.Conc Go.Mw
open Zn (tp Full WPs VP Zf Le)
open To (wpT wpT_lone O1 Iv a6P To at_ b2V bodyT)
def b5o(W:World)(sb a:Nat)(gen:Nat)(ids:List Int)(bss:List (List UInt8)):Prop:=
 ∃(ia:Option Addr)(ic Cb r:Nat)(v:Int),j6 W sb 138 #[l7 a,.int .u64 gen,.slice ia ids.length ic,.slice (some ⟨Cb,0,none⟩) ids.length ids.length,.map (some r),.int .i64 v]/\Ints W (.slice ia ids.length ic) ids/\a0J W Cb ids.length ids bss/\Y6 W r (a0h bss ids.length)/\bss.length=ids.length
theorem a0J.frame{w w':World}{Cb n:Nat}{ids:List Int}{bss:List (List UInt8)}(h:a0J w Cb n ids bss)(hC:w'.heap[Cb]?=w.heap[Cb]?)(hk:∀i u g,i<n->w.cell? ⟨Cb,2*i+1,none⟩=some u->u.ownBlock=some g->w'.heap[g]?=w.heap[g]?):a0J w' Cb n ids bss:=by
 intro i hi;obtain⟨h1,u,h2,h3⟩:=h i hi;exact⟨(World.cell?_of_block hC).trans h1,u,(World.cell?_of_block hC).trans h2,h3.keep fun g hg=>hk i u g hi h2 hg⟩
theorem a0J.ty{w:World}{Cb n:Nat}{ids:List Int}{bss:List (List UInt8)}(h:a0J w Cb n ids bss){i g:Nat}{u:Value}(hi:i<n)(hu:w.cell? ⟨Cb,2*i+1,none⟩=some u)(hg:u.ownBlock=some g):∃cur fr,w.heap[g]?=some (.cells cur 160 fr):=by
 obtain⟨-,u',h2,h3⟩:=h i hi;rw[hu] at h2;injection h2 with h2;subst h2;rcases h3.2 with⟨rfl,_⟩|⟨g',cap,cur,fr,rfl,h4,_⟩
 ·cases hg
 ·obtain rfl:g'=g:=by simpa [Value.ownBlock] using hg
  exact⟨_,_,h4⟩
structure b5p(F Sh:Nat->Prop)(a:Nat)(d:D)(w:World)(v:Value)(w':World)(Sh':Nat->Prop):Prop where
 W:WPs zone Sh' w'
 up:∀b,Sh b->Sh' b
 old:∀b,b<w.heap.size->Sh' b->Sh b
 vp:VP (Zf zone Sh' w'.heap.size) v
 chh:Chh F w w'
 disk:o8 w' F a d.kopen.2.2
 res:(d.kopen.1=none/\d.kopen.2.1≠.ok/\∃y,v=.tuple #[.pointer none,y]/\Held w' F (fun W=>Y4 W y d.kopen.2.1)) ∨
  (∃sb gen ids bss,d.kopen.1=some (gen,ids,bss)/\d.kopen.2.1=.ok/\a6O ids/\v=.tuple #[.pointer (some ⟨sb,0,none⟩),.nilIface]/\Held w' F (fun W=>b5o W sb a gen ids bss))
section
theorem b6K[To.Lo]{F Sh:Nat->Prop}{a:Nat}{d d2:D}{w w1:World}{T:Array Value}{gen:Nat}{ids:List Int}{bss:List (List UInt8)}{mb fb rb sx sb Cb:Nat}{ia:Option Addr}{ic:Nat}{vs:List Value}(h:Hd F a d w T w1 gen ids bss mb fb rb sx sb Cb ia ic vs d2)(hF:∀b,F b->b<w.heap.size)(hSh:∀b,Sh b->b<w.heap.size)
 {T':Array Value}{w2:World}{Sh':Nat->Prop}(hJ:Jn w1 Sh Cb ids.length ids bss T T' w2 Sh')(hI:Iv zone Sh' (fun k=>fX k=true) ⟨T',[]⟩ w2):wpT Tryz.prog 14 (D8 10) (bodyT Tryz.prog Tryz.f14 (b5p F Sh a d w)) ⟨T',[]⟩ w2 Sh':=by
 obtain⟨n1,n2,n3,n4,n5,n6⟩:=h.new;have hC1:=h.hcb;have hmem:∀{c:Code},c∈N8->Zn.CodeP zone c:=a90;have huse:∀{c:Code},c∈[G7 10,G7 11,G7 12,D8 13]->Zn.CodeU (fun k=>fX k=true) c:=b9d;have hsx1:w1.heap[sx]?=some (.cells #[.pointer (some ⟨sb,0,none⟩)] 32):=h.hsx;have hsb1:w1.heap[sb]?=some (.cells #[l7 a,.int .u64 gen,.slice ia ids.length ic,.slice (some ⟨Cb,0,none⟩) ids.length ids.length,.map none,.int .i64 0] 138):=h.hsb;have sxC:=a1S hsx1 hC1 (by decide);have sbC:=a1S hsb1 hC1 (by decide);have sxb:=a1S hsx1 hsb1 (by decide);have hsx2:j6 w2 sx 32 #[.pointer (some ⟨sb,0,none⟩)]:=(hJ.old sx (Bi.lt_of_some hsx1) sxC).trans hsx1;have hsb2:j6 w2 sb 138 #[l7 a,.int .u64 gen,.slice ia ids.length ic,.slice (some ⟨Cb,0,none⟩) ids.length ids.length,.map none,.int .i64 0]:=(hJ.old sb (Bi.lt_of_some hsb1) sbC).trans hsb1;have hD2:o8 w2 F a d2:=h.disk.frame (fun b hb=>hJ.old b (Nat.lt_of_lt_of_le (hF b hb) h.chh.size) fun e=>by have:=hF b hb;omega) hJ.size;have hiC:∀b,(Value.slice ia ids.length ic).ownBlock=some b->w.heap.size<=b/\b<w1.heap.size/\b≠Cb/\b≠sb:=fun b hb=>by
  rcases h.hids.2 with⟨e,_⟩|⟨g,cap,cur,e,hg,hc,_⟩
  ·rw[e] at hb;cases hb
  ·rw[e] at hb;obtain rfl:g=b:=by simpa [Value.ownBlock] using hb
   exact⟨hg,Bi.lt_of_some hc,a1S hc hC1 (by decide),a1S hc hsb1 (by decide)⟩
 have hids2:OwnI w2 w.heap.size (.slice ia ids.length ic) ids:=Dep.row h.hids w2 fun b hb=>hJ.old b (hiC b hb).2.1 (hiC b hb).2.2.1;obtain⟨vc,hal⟩:=hJ.al;have g11:T'[11]?=some (.pointer (some ⟨sx,0,none⟩)):=hJ.t11.trans h.t11;have c2:Chh F w w2:=⟨hJ.os.trans h.chh.os,hJ.output.trans h.chh.output,Nat.le_trans h.chh.size hJ.size,fun b hb hn=>(hJ.old b (Nat.lt_of_lt_of_le hb h.chh.size) (by omega)).trans (h.chh.block b hb hn)⟩;rw[b3F];refine O1 (piece (fun w=>QO6 sx sb (l7 a) (.int .u64 gen) (.slice ia ids.length ic) (.slice (some ⟨Cb,0,none⟩) ids.length ids.length) (.map none) vc w1.heap.size w) hI (hmem (by simp[N8])) (huse (by simp)) (fun τ p=>t10 T' hJ.hs g11 hJ.t12 _ _ _ _ _ _ vc 143 _ hsx2 hsb2 hal) ?_);rintro e ⟨T3,ds3⟩ w3 τ p τ' p' q;cases e<;>first|exact q.elim|skip
 obtain⟨q1,q2,q3,q4,q5⟩:=q;dsimp only at q1 q2 q3;subst q1;have c3:Chh (fun b=>b=sb) w2 w3:=⟨q5.os,q5.output,Nat.le_of_eq q5.size.symm,fun b _ hb=>q5.block b hb⟩;replace q4:j6 w3 sb 138 #[l7 a,.int .u64 gen,.slice ia ids.length ic,.slice (some ⟨Cb,0,none⟩) ids.length ids.length,.map none,.int .i64 vc]:=q4;clear q5;refine⟨.inl rfl,fun hI3 _=>?_⟩;have hsx3:=c3.box hsx2 sxb;show wpT _ _ _ _ _ _ _;rw[b3G];refine O1 (piece (fun w=>QO7 sx sb (l7 a) (.int .u64 gen) (.slice ia ids.length ic) (.slice (some ⟨Cb,0,none⟩) ids.length ids.length) vc w) hI3 (hmem (by simp[N8])) (huse (by simp)) (fun τ p=>t11 T3 q2 q3 _ _ _ _ _ vc _ hsx3 q4) ?_);rintro e ⟨T4,ds4⟩ w4 τ p τ' p' q;cases e<;>first|exact q.elim|skip
 obtain⟨r1,r2,r3,r4,r,r5,r6,r7⟩:=q;dsimp only at r1 r2 r3;subst r1;have c4:Chh (fun b=>b=sb) w3 w4:=.of r4;replace r5:w3.heap.size<=r:=r5;replace r6:j6 w4 sb 138 #[l7 a,.int .u64 gen,.slice ia ids.length ic,.slice (some ⟨Cb,0,none⟩) ids.length ids.length,.map (some r),.int .i64 vc]:=r6;replace r7:Y6 w4 r []:=r7;clear r4;refine⟨.inl rfl,fun hI4 _=>?_⟩;have hsx4:=c4.box hsx3 sxb;have c24:Chh (fun b=>b=sb) w2 w4:=c3.trans c4;have hCl2:Cb<w2.heap.size:=Nat.lt_of_lt_of_le (Bi.lt_of_some hC1) hJ.size;have hS4:a0J w4 Cb ids.length ids bss:=hJ.segs.frame (c24.block Cb hCl2 (Ne.symm sbC)) fun i u g hi hu hg=>by
  obtain⟨cur,fr,hc⟩:=hJ.segs.ty hi hu hg;exact c24.block g (Bi.lt_of_some hc) (a1S hc (show w2.heap[sb]?=some (.cells _ 138) from hsb2) (by decide))
 have s1:w1.heap.size<=r:=Nat.le_trans hJ.size (Nat.le_trans c3.size r5);have hrne:r≠sx/\r≠sb:=by
  have:=Bi.lt_of_some hsx1;have:=Bi.lt_of_some hsb1;omega
 show wpT _ _ _ _ _ _ _;rw[b3H];refine O1 (piece (fun w=>QO8 sx r bss ids.length w) hI4 (hmem (by simp[N8])) (huse (by simp)) (fun τ p=>t12 T4 r2 r3 _ _ _ _ ids bss _ hsx4 r6 ⟨Nat.le_refl _,by have:=h.idsIn.1;omega⟩ hS4 r7 hrne) ?_);rintro e ⟨T5,ds5⟩ w5 τ p τ' p' q;cases e<;>first|exact q.elim|skip
 obtain⟨u1,u2,u3,u4,u5⟩:=q;dsimp only at u1 u2 u3;subst u1;have c5:Chh (fun b=>b=r) w4 w5:=.of u4;replace u5:Y6 w5 r (a0h bss ids.length):=u5;clear u4;refine⟨.inl rfl,fun hI5 _=>?_⟩;have hsx5:=c5.box hsx4 (Ne.symm hrne.1);have hsb5:=c5.box r6 (Ne.symm hrne.2);refine piece (fun w=>QO9 sb w) hI5 (hmem (by simp[N8])) (huse (by simp)) (fun τ p=>t13 T5 u2 u3 _ hsx5) ?_;rintro e a6 w6 τ p τ' p' q;cases e<;>first|exact q.elim|skip
 obtain⟨v1,v2,v3,v4⟩:=q;have c6:Chh (fun _=>False) w5 w6:=.eq v4;refine⟨.inr rfl,fun hI6 _=>⟨v1,_,resultsC_tmp2 rfl a6.tmps,?_⟩⟩;rw[I8 v2,I8 v3];have z26:w2.heap.size<=w6.heap.size:=Nat.le_trans c24.size (Nat.le_trans c5.size c6.size);have z2r:w2.heap.size<=r:=Nat.le_trans c3.size r5;have k26:∀b,b<w2.heap.size->b≠sb->w6.heap[b]?=w2.heap[b]?:=fun b hb hn=>
  (c6.block b (Nat.lt_of_lt_of_le hb (Nat.le_trans c24.size c5.size)) fun h=>h).trans ((c5.block b (Nat.lt_of_lt_of_le hb c24.size) (by omega)).trans (c24.block b hb hn))
 have z12:=hJ.size;have z01:=h.chh.size;have hsb6:=c6.box hsb5 fun h=>h;have hM6:Y6 w6 r (a0h bss ids.length):=u5.block (c6.block r (by obtain⟨es,c,h1,-⟩:=u5;exact Bi.lt_of_some h1) fun h=>h);have hids6:OwnI w6 w.heap.size (.slice ia ids.length ic) ids:=Dep.row hids2 w6 fun b hb=>k26 b (by have:=hiC b hb;omega) (hiC b hb).2.2.2;have cellC:∀k,w6.cell? ⟨Cb,k,none⟩=w2.cell? ⟨Cb,k,none⟩:=fun k=>World.cell?_of_block (k26 Cb hCl2 (Ne.symm sbC));have gk:∀i u g,i<ids.length->w2.cell? ⟨Cb,2*i+1,none⟩=some u->u.ownBlock=some g->w.heap.size<=g/\g<w2.heap.size/\g≠sb:=fun i u g hi hu hg=>by
  obtain⟨cur,fr,hc⟩:=hJ.segs.ty hi hu hg;exact⟨Nat.le_trans z01 (hJ.segsNew i u g hi hu hg),Bi.lt_of_some hc,a1S hc (show w2.heap[sb]?=some (.cells _ 138) from hsb2) (by decide)⟩
 have hS6:a0J w6 Cb ids.length ids bss:=hJ.segs.frame (k26 Cb hCl2 (Ne.symm sbC)) fun i u g hi hu hg=>k26 g (gk i u g hi hu hg).2.1 (gk i u g hi hu hg).2.2;have hsbl:sb<w1.heap.size:=Bi.lt_of_some hsb1;have hrl:r<w6.heap.size:=by obtain⟨es,c,h1,-⟩:=hM6;exact Bi.lt_of_some h1
 exact{
  W:=hI6.W
  up:=hJ.shUp
  old:=fun b hb hs=>hJ.shOld b (Nat.lt_of_lt_of_le hb z01) hs
  vp:=by
   refine .tuple _ fun x hx=>?_;rcases(by simpa using hx:x=.pointer (some ⟨sb,0,none⟩)\/x=.nilIface) with rfl|rfl
   ·exact .ptr _ ⟨by show sb<_;omega,fun hs=>by have:=hSh sb (hJ.shOld sb hsbl hs);omega⟩
   ·exact .nilIface
  chh:=by
   refine⟨c6.os.trans (c5.os.trans (c24.os.trans c2.os)),c6.output.trans (c5.output.trans (c24.output.trans c2.output)),by omega,fun b hb hn=>(k26 b (by omega) (by omega)).trans (c2.block b hb hn)⟩
  disk:=by rw[h.ko];exact hD2.frame (fun b hb=>k26 b (by have:=hF b hb;omega) (by have:=hF b hb;omega)) z26
  res:=by
   refine .inr ⟨sb,gen,ids,bss,by rw[h.ko],by rw[h.ko],h.idsIn,rfl,fun b=>w.heap.size<=b/\b<w6.heap.size,fun b hb=>⟨hb.2,fun hf=>by have:=hF b hf;omega⟩,fun w'' hw=>?_⟩;have hkb:∀b,w.heap.size<=b->b<w6.heap.size->w''.heap[b]?=w6.heap[b]?:=fun b h1 h2=>hw b ⟨h1,h2⟩;refine⟨ia,ic,Cb,r,vc,(hkb sb n5 (by omega)).trans hsb6,OwnI.ints (B:=w.heap.size) (Dep.row hids6 w'' fun b hb=>hkb b (hiC b hb).1 (by have:=hiC b hb;omega)),?_,hM6.block (hkb r (by omega) hrl),h.hbss⟩;exact hS6.frame (hkb Cb n6 (by omega)) fun i u g hi hu hg=>by
    rw[cellC] at hu;have:=gk i u g hi hu hg;exact hkb g this.1 (by omega)}
theorem b6L[Go.ConcR.Payload][To.Lo]{F Sh:Nat->Prop}{a:Nat}{d:D}{w:World}(W:WPs zone Sh w)(hgl:Tryz.prog.globals.size<=w.heap.size)(hv:VP (Zf zone Sh w.heap.size) (l7 a))(hD:o8 w F a d)(hds:∀x∈d.ids,(d.node x).data.length<=1099511627776)(hl:Held w F a0G):
 b2V Tryz.prog 14 #[l7 a] w Sh (b5p F Sh a d w):=by
 refine⟨Tryz.f14,D8 0,Tryz.func14,by kernel_rfl,by kernel_rfl,?_⟩;have en:Tryz.f14.ntmps=118:=by kernel_rfl
 rw[en];have eT:(#[l7 a]:Array Value).size=1:=rfl;rw[eT];have hI:Iv zone Sh Full ⟨#[l7 a]++Array.replicate (118 - 1) undef,[]⟩ w:=by
  refine⟨fun t _=>?_,fun d hd=>(by cases hd),W⟩;show VP _ ((#[l7 a]++Array.replicate (118 - 1) undef).getD t undef);rw[Array.getD_eq_getD_getElem?,Array.getElem?_append];split
  ·rename_i h;obtain rfl:t=0:=by simpa using h
   exact hv
  ·rw[Array.getElem?_replicate];split
   ·exact Zn.vp_undef
   ·exact Zn.vp_undef
 refine b6G (F:=F) (d:=d) hI (by simp) (by simp) hD (fun x hx=>Nat.le_trans (hds x hx) (by decide)) hl ?_ ?_
 ·intro a' w' y hE hI';refine⟨hE.defers,_,resultsC_tmp2 rfl a'.tmps,?_⟩;rw[I8 hE.t2,I8 hE.t3];have hy:=hI'.tmps 3 trivial;rw[I8 hE.t3] at hy;exact⟨hI'.W,fun _ h=>h,fun _ _ h=>h,.tuple _ fun x hx=>by
   rcases(by simpa using hx:x=.pointer none\/x=y) with rfl|rfl
   ·exact .pnil
   ·exact hy,hE.chh,hE.disk,.inl ⟨hE.ko.1,hE.ko.2,y,rfl,hE.err⟩⟩
 ·intro T w' gen ids bss mb fb rb sx sb Cb ia ic vs d2 h hI';have hlen:∀l∈bss,l.length<=1099511627776:=by
   have hk:=h.ko;have hm:=D.readMan_same d
   cases hr:d.readMan.1 with
   | none=>rw[a0K hr] at hk;cases hk
   | some r=>
    obtain⟨g,l⟩:=r;have hwf:d.readMan.2.2.Wf:=by
     have hw:=hD.wf;exact⟨by rw[hm.now,hm.ids];exact hw.now,by rw[hm.safe,hm.ids];exact hw.safe,by rw[hm.moves,hm.ids];exact hw.moves,by rw[hm.node,hm.ids];exact hw.part,by rw[hm.ids];exact hw.ids⟩
    cases he:(D.opensAcc l d.readMan.2.2 []).2.1 with
    | ok=>
     rw[a8c hr he] at hk;injection hk with h1 h2;injection h1 with h1;injection h1 with h1 h3;injection h3 with h3 h4;rw[<-h4]
     exact b6I l hwf (by rw[hm.ids,hm.node];exact hds) fun l hl=>by cases hl
    | num n=>rw[a1n hr (by rw[he];exact fun h=>by cases h)] at hk;cases hk
    | file n m=>rw[a1n hr (by rw[he];exact fun h=>by cases h)] at hk;cases hk
  obtain⟨g,c2,hp⟩:=h.ph hI'.W W.sh hgl hlen;exact b6J hp hI' h.hs h.t4 h.t6 h.t11 fun T' w2 Sh' hJ hI2=>b6K h hD.low W.sh hJ hI2
end
end
section
open Go.RowKit Go.Lib Go.Maps Dk Pl
theorem b1X{d:D}(hw:d.Wf){c:Nat}(hds:∀x∈d.ids,(d.node x).data.length<=c):∀p∈d.files,p.2.length<=c:=by
 intro p hp;unfold D.files at hp;obtain⟨n,hn,rfl⟩:=List.mem_map.1 hp;obtain⟨b,hb⟩:=a7W d n hn;rw[hb];exact b5i hw hds hb
structure Kp(ch:Nat->Bool)(T T':Array Value):Prop where
 size:T'.size=T.size
 keep:∀k,ch k=false->T'[k]?=T[k]?
theorem Kp.refl(ch:Nat->Bool)(T:Array Value):Kp ch T T:=⟨rfl,fun _ _=>rfl⟩
theorem Kp.set{ch:Nat->Bool}{T T':Array Value}(h:Kp ch T T'){i:Nat}{v:Value}(hi:ch i=true):Kp ch T (T'.setIfInBounds i v):=
 ⟨by rw[Array.size_setIfInBounds,h.size],fun k hk=>by
  have:i≠k:=by rintro rfl;rw[hi] at hk;cases hk
  rw[Array.getElem?_setIfInBounds_ne this];exact h.keep k hk⟩
theorem slot{T:Array Value}{i:Nat}{v:Value}(h:T[i]?=some v):∃h:i<T.size,T[i]=v:=Array.getElem?_eq_some_iff.1 h
theorem Y0{T:Array Value}{i:Nat}{v:Value}(h:i<T.size):(T.setIfInBounds i v)[i]?=some v:=Array.getElem?_setIfInBounds_self_of_lt h
theorem a2z{T:Array Value}{i j:Nat}{u v:Value}(h:T[i]?=some v)(hij:j≠i):(T.setIfInBounds j u)[i]?=some v:=by rw[Array.getElem?_setIfInBounds_ne hij];exact h
theorem c2y:I1 5=.seq (M3 5) (I1 6):=by kernel_rfl
theorem c2z:I1 6=.seq (M3 6) (I1 7):=by kernel_rfl
theorem c2A:I1 7=.seq (M3 7) (I1 8):=by kernel_rfl
theorem c2B:I1 8=.seq (M3 8) (I1 9):=by kernel_rfl
theorem c4n:I1 9=.seq (M3 9) (I1 10):=by kernel_rfl
theorem c27:I1 10=.seq (M3 10) (I1 11):=by kernel_rfl
theorem c29:I1 11=.seq (M3 11) (I1 12):=by kernel_rfl
theorem c3a:I1 12=.seq (M3 12) (I1 13):=by kernel_rfl
theorem c3b:I1 13=.seq (M3 13) (I1 14):=by kernel_rfl
theorem c3c:I1 14=.seq (M3 14) (I1 15):=by kernel_rfl
section
variable{F:Nat->Prop}{a:Nat}{D:Dk.D}{w:World}{T:Array Value}
def ch5(k:Nat):Bool:=k==35||k==36||k==34||k==37||k==38||k==11||k==12
def QP5(T:Array Value)(cd:Int)(w:World):Exit->Act->World->Prop
 | .normal,a',w'=>a'.defers=[]/\Kp ch5 T a'.tmps/\a'.tmps[11]?=some (.int .i64 cd)/\Ext w w'
 | _,_,_=>False
theorem b8I{y:Value}{er:Er}(hT:T.size=150)(h10:T[10]?=some y)(hL:Laid w)(he:Y4 w y er):(M3 5).wp Tryz.prog (QP5 T er.code w) ⟨T,[]⟩ w:=by
 obtain⟨_,h10'⟩:=slot h10;have htl:=b2r er y w he hL;obtain⟨cd,hcd⟩:∃cd,er.code=cd:=⟨_,rfl⟩;obtain⟨nm,hnm⟩:∃nm,strV er.name=nm:=⟨_,rfl⟩;rw[hcd,hnm] at htl;rw[hcd];have HTL:=Lib.hid htl;clear htl he hL h10 hcd hnm;unfold M3 I1;simp only[Code.behind,Code.head,Tryz.f4,Option.getD_some];go_wp2_with fail
 refine HTL.out.mono ?_;rintro e w1 ⟨rfl,hE1⟩;have HE:=Lib.hid hE1;clear hE1 HTL h10';go_wp2;refine⟨rfl,?_,?_,HE.out⟩
 ·dsimp only;exact Kp.set (Kp.set (Kp.set (Kp.set (Kp.set (Kp.set (Kp.set (Kp.refl _ _) rfl) rfl) rfl) rfl) rfl) rfl) rfl
 ·dsimp only;exact a2z (Y0 (by simp only[Array.size_setIfInBounds,hT];decide)) (by decide)
def ch6(k:Nat):Bool:=k==39||k==40||k==13
def QP6(F:Nat->Prop)(a:Nat)(D:Dk.D)(T:Array Value)(w:World):Exit->Act->World->Prop
 | .normal,a',w'=>a'.defers=[]/\Kp ch6 T a'.tmps/\∃fv rows,a'.tmps[13]?=some fv/\a1x w' w.heap.size fv rows D.files/\o8 w' F a D/\Chg F F w w'
 | _,_,_=>False
theorem b8J(hT:T.size=150)(h8:T[8]?=some (l7 a))(hD:o8 w F a D)(hc:D.Calm)(hfit:D.Fit):(M3 6).wp Tryz.prog (QP6 F a D T w) ⟨T,[]⟩ w:=by
 obtain⟨_,h8'⟩:=slot h8;have hfs:=b6o F a D w hD hc (by have:=hfit.len;omega) (fun x hx=>by have:=hfit.data x hx;omega) (fun p hp=>by have:=hfit.names p hp;unfold maxLen;omega);have HFS:=Lib.hid hfs;clear hfs hD hc hfit h8;unfold l7 at h8' HFS;unfold M3 I1;simp only[Code.behind,Code.head,Tryz.f4,Option.getD_some];go_wp2_with fail
 refine HFS.out.mono ?_;rintro e w1 ⟨fv,rows,rfl,hR,hD2,hC2⟩;have HR:=Lib.hid hR;have HD:=Lib.hid hD2;have HC:=Lib.hid hC2;clear hR hD2 hC2 HFS h8';go_wp2;refine⟨rfl,?_,fv,rows,?_,HR.out,HD.out,HC.out⟩
 ·dsimp only;exact Kp.set (Kp.set (Kp.set (Kp.refl _ _) rfl) rfl) rfl
 ·dsimp only;exact Y0 (by simp only[Array.size_setIfInBounds,hT];decide)
def ch7(k:Nat):Bool:=k==42||k==43||k==41||k==44||k==45||k==46||k==14||k==15||k==16
def QP7(l:Fl)(T:Array Value)(w:World):Exit->Act->World->Prop
 | .normal,a',w'=>a'.defers=[]/\Kp ch7 T a'.tmps/\∃v,a'.tmps[14]?=some v/\a'.tmps[15]?=some (.int .i64 (J6 l).2.1)/\a3R l w (.returned (.tuple #[v,.int .i64 (J6 l).2.1,strV (J6 l).2.2])) w'
 | _,_,_=>False
theorem b8K{fv:Value}{l:Fl}(hT:T.size=150)(h13:T[13]?=some fv)(hf:a2E w fv l)(hl:∀p∈l,p.2.length<=1099511627776):(M3 7).wp Tryz.prog (QP7 l T w) ⟨T,[]⟩ w:=by
 obtain⟨_,h13'⟩:=slot h13;have hro:=b2O fv l w hf hl;have HRO:=Lib.hid hro;clear hro hf hl h13;unfold M3 I1;simp only[Code.behind,Code.head,Tryz.f4,Option.getD_some];go_wp2_with fail
 refine HRO.out.mono ?_;intro e w1 hro;obtain⟨v,rfl,h2⟩:=id hro;have HR:=Lib.hid hro;clear hro h2 HRO h13';go_wp2;refine⟨rfl,?_,v,?_,?_,HR.out⟩
 ·dsimp only;exact Kp.set (Kp.set (Kp.set (Kp.set (Kp.set (Kp.set (Kp.set (Kp.set (Kp.set (Kp.refl _ _) rfl) rfl) rfl) rfl) rfl) rfl) rfl) rfl) rfl
 ·dsimp only;exact a2z (a2z (Y0 (by simp only[Array.size_setIfInBounds,hT];decide)) (by decide)) (by decide)
 ·dsimp only;exact a2z (Y0 (by simp only[Array.size_setIfInBounds,hT];decide)) (by decide)
def ch9(k:Nat):Bool:=k==59||k==60||k==17
def QP9(L:List Value)(n:Nat)(T:Array Value)(w:World):Exit->Act->World->Prop
 | .normal,a',w'=>a'.defers=[]/\Kp ch9 T a'.tmps/\∃u,a'.tmps[17]?=some u/\w'.ownsRow w.heap.size 67 5 u n L/\Ext w w'
 | _,_,_=>False
theorem c3d{sb n:Nat}{L:List Value}(hT:T.size=150)(h9:T[9]?=some (l7 sb))(hc:Calls Tryz.prog 23 #[l7 sb] w fun e w'=>∃u,e=.returned u/\w'.ownsRow w.heap.size 67 5 u n L/\Ext w w'):(M3 9).wp Tryz.prog (QP9 L n T w) ⟨T,[]⟩ w:=by
 obtain⟨_,h9'⟩:=slot h9;have HC:=Lib.hid hc;clear hc h9;unfold l7 at h9' HC;unfold M3 I1;simp only[Code.behind,Code.head,Tryz.f4,Option.getD_some];go_wp2_with fail
 refine HC.out.mono ?_;rintro e w1 ⟨u,rfl,hR,hE⟩;have HR:=Lib.hid hR;have HE:=Lib.hid hE;clear hR hE HC h9';go_wp2;refine⟨rfl,?_,u,?_,HR.out,HE.out⟩
 ·dsimp only;exact Kp.set (Kp.set (Kp.set (Kp.refl _ _) rfl) rfl) rfl
 ·dsimp only;exact Y0 (by simp only[Array.size_setIfInBounds,hT];decide)
def c4U(k:Nat):Bool:=k==61||k==62||k==18
def c4V(L:List Value)(n:Nat)(T:Array Value)(w:World):Exit->Act->World->Prop
 | .normal,a',w'=>a'.defers=[]/\Kp c4U T a'.tmps/\∃u,a'.tmps[18]?=some u/\w'.ownsRow w.heap.size 68 5 u n L/\Ext w w'
 | _,_,_=>False
theorem c1e{rb n:Nat}{L:List Value}(hT:T.size=150)(h14:T[14]?=some (l7 rb))(hc:Calls Tryz.prog 24 #[l7 rb] w fun e w'=>∃u,e=.returned u/\w'.ownsRow w.heap.size 68 5 u n L/\Ext w w'):(M3 10).wp Tryz.prog (c4V L n T w) ⟨T,[]⟩ w:=by
 obtain⟨_,h14'⟩:=slot h14;have HC:=Lib.hid hc;clear hc h14;unfold l7 at h14' HC;unfold M3 I1;simp only[Code.behind,Code.head,Tryz.f4,Option.getD_some];go_wp2_with fail
 refine HC.out.mono ?_;rintro e w1 ⟨u,rfl,hR,hE⟩;have HR:=Lib.hid hR;have HE:=Lib.hid hE;clear hR hE HC h14';go_wp2;refine⟨rfl,?_,u,?_,HR.out,HE.out⟩
 ·dsimp only;exact Kp.set (Kp.set (Kp.set (Kp.refl _ _) rfl) rfl) rfl
 ·dsimp only;exact Y0 (by simp only[Array.size_setIfInBounds,hT];decide)
def c4W(k:Nat):Bool:=k==139||k==140||k==141||k==142||k==21
def c4X(L:List Int)(T:Array Value)(w:World):Exit->Act->World->Prop
 | .normal,a',w'=>a'.defers=[]/\Kp c4W T a'.tmps/\∃u,a'.tmps[21]?=some u/\OwnI w' w.heap.size u L/\Ext w w'
 | _,_,_=>False
theorem c1f{sb:Nat}{percent count:Int}{L:List Int}(hT:T.size=150)(h1:T[1]?=some (.int .i64 percent))(h2:T[2]?=some (.int .i64 count))(h9:T[9]?=some (l7 sb))(hc:Calls Tryz.prog 25 #[l7 sb,.int .i64 percent,.int .i64 count] w fun e w'=>∃u,e=.returned u/\OwnI w' w.heap.size u L/\Ext w w'):(M3 13).wp Tryz.prog (c4X L T w) ⟨T,[]⟩ w:=by
 obtain⟨_,h9'⟩:=slot h9;obtain⟨_,h1'⟩:=slot h1;obtain⟨_,h2'⟩:=slot h2;have HC:=Lib.hid hc;clear hc h9 h1 h2;unfold l7 at h9' HC;unfold M3 I1;simp only[Code.behind,Code.head,Tryz.f4,Option.getD_some];go_wp2_with fail
 refine HC.out.mono ?_;rintro e w1 ⟨u,rfl,hR,hE⟩;have HR:=Lib.hid hR;have HE:=Lib.hid hE;clear hR hE HC h9' h1' h2';go_wp2;refine⟨rfl,?_,u,?_,HR.out,HE.out⟩
 ·dsimp only;exact Kp.set (Kp.set (Kp.set (Kp.set (Kp.set (Kp.refl _ _) rfl) rfl) rfl) rfl) rfl
 ·dsimp only;exact Y0 (by simp only[Array.size_setIfInBounds,hT];decide)
def c4Y(k:Nat):Bool:=k==143||k==144||k==145||k==146||k==22
def c4Z(L:List Int)(T:Array Value)(w:World):Exit->Act->World->Prop
 | .normal,a',w'=>a'.defers=[]/\Kp c4Y T a'.tmps/\∃u,a'.tmps[22]?=some u/\OwnI w' w.heap.size u L/\Ext w w'
 | _,_,_=>False
theorem c1g{sb:Nat}{percent count:Int}{L:List Int}(hT:T.size=150)(h1:T[1]?=some (.int .i64 percent))(h2:T[2]?=some (.int .i64 count))(h9:T[14]?=some (l7 sb))(hc:Calls Tryz.prog 26 #[l7 sb,.int .i64 percent,.int .i64 count] w fun e w'=>∃u,e=.returned u/\OwnI w' w.heap.size u L/\Ext w w'):(M3 14).wp Tryz.prog (c4Z L T w) ⟨T,[]⟩ w:=by
 obtain⟨_,h9'⟩:=slot h9;obtain⟨_,h1'⟩:=slot h1;obtain⟨_,h2'⟩:=slot h2;have HC:=Lib.hid hc;clear hc h9 h1 h2;unfold l7 at h9' HC;unfold M3 I1;simp only[Code.behind,Code.head,Tryz.f4,Option.getD_some];go_wp2_with fail
 refine HC.out.mono ?_;rintro e w1 ⟨u,rfl,hR,hE⟩;have HR:=Lib.hid hR;have HE:=Lib.hid hE;clear hR hE HC h9' h1' h2';go_wp2;refine⟨rfl,?_,u,?_,HR.out,HE.out⟩
 ·dsimp only;exact Kp.set (Kp.set (Kp.set (Kp.set (Kp.set (Kp.refl _ _) rfl) rfl) rfl) rfl) rfl
 ·dsimp only;exact Y0 (by simp only[Array.size_setIfInBounds,hT];decide)
def c41(w:World):Exit->Act->World->Prop
 | .ret,a',w'=>a'.defers=[]/\a'.tmps[6]?=some (.bool true)/\Ext w w'
 | _,_,_=>False
theorem c1h{u v:Value}{L:List Int}(hT:T.size=150)(h21:T[21]?=some u)(h22:T[22]?=some v)(hu:Ints w u L)(hv:Ints w v L):(I1 15).wp Tryz.prog (c41 w) ⟨T,[]⟩ w:=by
 obtain⟨_,h21'⟩:=slot h21;obtain⟨_,h22'⟩:=slot h22;have hc:=a7k u v L L w hu hv;have HC:=Lib.hid hc;clear hc h21 h22 hu hv;unfold I1;simp only[Code.behind,Tryz.f4,Option.getD_some];go_wp2_with fail
 refine HC.out.mono ?_;rintro e w1 ⟨rfl,n,hw⟩;have HW:=Lib.hid hw;clear hw HC h21' h22';go_wp2;refine⟨rfl,?_,by rw[HW.out];exact Ext.drewN _ _⟩;dsimp only;exact(Y0 (by simp only[Array.size_setIfInBounds,hT];decide)).trans (by simp)
end
end
end Go.Proofs.YtgpbhjjajpbeeaaGreatDoor
