/- A part of what the last file proves. -/
import Derived.Test.YtgpbhjjajpbeeaaGreatDoorL22
import Derived.Sort.Walk0
set_option linter.all false
set_option maxRecDepth 100000
set_option maxHeartbeats 6400000
namespace Go.Proofs.YtgpbhjjajpbeeaaGreatDoor
section
open Dk Pl
def a6Q(r:Rec):List (Nm×Nm)->Bool->List (Nm×Nm)
 | [],done=>if done then[] else[(r.key,r.val)]
 | p::l,done=>(if !done&&!Op.bytesLess p.1 r.key then[(r.key,r.val)] else[])++((if p.1=r.key then[] else[p])++a6Q r l (done||!Op.bytesLess p.1 r.key))
def a6R(l:List (Nm×Nm))(r:Rec):List (Nm×Nm):=a6Q r l r.del
theorem c0U(r:Rec):∀(l:List (Nm×Nm))(done:Bool),(a6Q r l done).length<=l.length+(if done then 0 else 1):=by
 intro l
 induction l with
 | nil=>intro done;cases done<;>simp[a6Q]
 | cons p l ih=>
  intro done;rw[a6Q,List.length_append,List.length_append];have:=ih (done||!Op.bytesLess p.1 r.key);have h2:(if p.1=r.key then([]:List (Nm×Nm)) else[p]).length<=1:=by split<;>simp
  cases done<;>cases hb:Op.bytesLess p.1 r.key<;>simp[hb] at this⊢<;>omega
def I9(p:Nm×Nm):List Value:=[.string ⟨p.1.toArray⟩,.string ⟨p.2.toArray⟩]
def U8(l:List (Nat×Rec)):List (Nm×Nm):=l.foldl (fun m q=>a6R m q.2) []
theorem b1X(l:List (Nat×Rec))(q:Nat×Rec):U8 (l++[q])=a6R (U8 l) q.2:=by unfold U8;rw[List.foldl_append];rfl
theorem b3m(l:List (Nat×Rec)):(U8 l).length<=l.length:=by
 suffices h:∀(l:List (Nat×Rec))(m:List (Nm×Nm)),(l.foldl (fun m q=>a6R m q.2) m).length<=m.length+l.length by simpa [U8] using h l []
 intro l
 induction l with
 | nil=>intro m;simp
 | cons q l ih=>
  intro m;have:=ih (a6R m q.2);have h2:=c0U q.2 m q.2.del;unfold a6R at this;rw[List.foldl_cons,List.length_cons];unfold a6R;split at h2<;>omega
def a6S(segs:List (List (Nat×Rec))):List (Nm×Nm):=U8 segs.flatten
def ahead(segs:List (List (Nat×Rec)))(i m:Nat):List (Nat×Rec):=(segs.take i).flatten++(segs.getD i []).take m
theorem b45{segs:List (List (Nat×Rec))}{i m:Nat}{q:Nat×Rec}(h:(segs.getD i [])[m]?=some q):ahead segs i (m+1)=ahead segs i m++[q]:=by
 unfold ahead;rw[List.take_add_one,h];simp
theorem b0R{segs:List (List (Nat×Rec))}{i:Nat}(hi:i<segs.length):ahead segs i (segs.getD i []).length=ahead segs (i+1) 0:=by
 unfold ahead;have e:segs.take (i+1)=segs.take i++[segs[i]]:=by rw[List.take_add_one,List.getElem?_eq_getElem hi];rfl
 have e2:segs.getD i []=segs[i]:=by rw[List.getD_eq_getElem?_getD,List.getElem?_eq_getElem hi];rfl
 rw[List.take_length,e2,List.take_zero,List.append_nil,e,List.flatten_append];simp
theorem b8a(segs:List (List (Nat×Rec))):ahead segs segs.length 0=segs.flatten:=by
 unfold ahead;simp
theorem b8b{segs:List (List (Nat×Rec))}{B:Nat}(hB:∀i,17*(segs.getD i []).length<=B):∀(i m:Nat),i<=segs.length->m<=(segs.getD i []).length->17*(ahead segs i m).length<=(i+1)*B:=by
 intro i
 induction i with
 | zero=>
  intro m _ hm;have:=hB 0;unfold ahead;rw[List.take_zero,List.flatten_nil,List.nil_append,List.length_take]
  omega
 | succ i ih=>
  intro m hi hm;have h1:=ih _ (by omega) (Nat.le_refl _);rw[b0R (by omega)] at h1;have h2:(ahead segs (i+1) m).length=(ahead segs (i+1) 0).length+m:=by
   unfold ahead;rw[List.length_append,List.length_append,List.length_take,List.take_zero,List.length_nil,Nat.min_eq_left hm];rfl
  have h3:=hB (i+1);have h4:(i+1+1)*B=(i+1)*B+B:=Nat.succ_mul _ _;rw[h2,h4];omega
theorem b8c(r:Rec)(key:Nm):∀(l:List (Nm×Nm))(done:Bool),(∀p∈l,p.1≠r.key->p∈a6Q r l done)/\(∀p∈a6Q r l done,(p∈l/\p.1≠r.key)\/(done=false/\p=(r.key,r.val))):=by
 intro l
 induction l with
 | nil=>
  intro done;refine⟨fun p h=>(by cases h),fun p h=>?_⟩;cases done<;>simp[a6Q] at h
  exact .inr ⟨rfl,h⟩
 | cons q l ih=>
  intro done;obtain⟨i1,i2⟩:=ih (done||!Op.bytesLess q.1 r.key);refine⟨fun p h hp=>?_,fun p h=>?_⟩
  ·rw[a6Q];rcases List.mem_cons.1 h with rfl|h
   ·rw[if_neg hp];simp
   ·exact List.mem_append_right _ (List.mem_append_right _ (i1 p h hp))
  ·rw[a6Q] at h;rcases List.mem_append.1 h with h|h
   ·split at h
    ·rename_i hc;simp at h hc;exact .inr ⟨hc.1,h⟩
    ·cases h
   ·rcases List.mem_append.1 h with h|h
    ·split at h
     ·cases h
     ·rename_i hq;simp at h;subst h;exact .inl ⟨List.mem_cons_self ..,hq⟩
    ·rcases i2 p h with⟨h1,h2⟩|⟨h1,h2⟩
     ·exact .inl ⟨List.mem_cons_of_mem _ h1,h2⟩
     ·refine .inr ⟨?_,h2⟩;cases done
      ·rfl
      ·cases h1
end
section
open Go.RowKit Go.Lib Go.Maps Dk Pl
theorem a2K(p:Nm×Nm):(I9 p).length=2:=rfl
theorem b8e:(Tryz.prog.info? 60).map (fun i=>(i.zero,i.size,i.bytes))=some (some (.agg #[.string ⟨#[]⟩,.string ⟨#[]⟩]),2,32):=by kernel_rfl
abbrev rrV(r:Rec):Value:=.agg #[.int .u64 r.seq,.string ⟨r.key.toArray⟩,.string ⟨r.val.toArray⟩,.bool r.del,.int .i64 r.size]
structure c6g(wx:World)(l:List (Nm×Nm))(r:Rec)(u:Value)(done:Bool)(n:Nat)(acc:List (Nm×Nm))(wr:World):Prop where
 le:n<=l.length
 len:acc.length<=n+(if done then 1 else 0)
 res:a6R l r=acc++a6Q r (l.drop n) done
 row:wr.ownsRow wx.heap.size 60 2 u acc.length (acc.flatMap I9)
 ext:Ext wx wr
theorem a4g(w:World)(n:Nat)(o:Obj):((w.drewN n).alloc o).heap[w.heap.size]?=some o:=by
 have:=heap_alloc_new (w.drewN n) o;have e:(w.drewN n).heap.size=w.heap.size:=by simp
 rwa [e] at this
theorem put_any(v:Value)(l:List (Nm×Nm))(r:Rec)(w:World)(h:a2p w 60 2 v l.length (l.flatMap I9))(hl:l.length<=4000000000000):
 Calls Tryz.prog 70 #[v,rrV r] w fun e w'=>∃u,e=.returned u/\w'.ownsRow w.heap.size 60 2 u (a6R l r).length ((a6R l r).flatMap I9)/\Ext w w':=by
 obtain⟨i0,hi,hz0,hz1,hz2⟩:=info_parts b8e;obtain⟨va,vc,rfl⟩:=h.slice;have hcap:=h.cap;obtain⟨n,hnn⟩:∃n,l.length=n:=⟨_,rfl⟩;have hX:o7 (w.alloc (.cells #[.int .u64 r.seq,.string ⟨r.key.toArray⟩,.string ⟨r.val.toArray⟩,.bool r.del,.int .i64 r.size] 116)) w.heap.size 116 #[.int .u64 r.seq,.string ⟨r.key.toArray⟩,.string ⟨r.val.toArray⟩,.bool r.del,.int .i64 r.size]:=o7.new _ _ rfl;have hE0:Ext w (w.alloc (.cells #[.int .u64 r.seq,.string ⟨r.key.toArray⟩,.string ⟨r.val.toArray⟩,.bool r.del,.int .i64 r.size] 116)):=(Ext.refl w).new _;obtain⟨wx,hwx⟩:∃wx,w.alloc (.cells #[.int .u64 r.seq,.string ⟨r.key.toArray⟩,.string ⟨r.val.toArray⟩,.bool r.del,.int .i64 r.size] 116)=wx:=⟨_,rfl⟩;have x1:=(hX.cell 1).trans (show _=some (Value.string ⟨r.key.toArray⟩) from rfl);have x2:=(hX.cell 2).trans (show _=some (Value.string ⟨r.val.toArray⟩) from rfl);have x3:=(hX.cell 3).trans (show _=some (Value.bool r.del) from rfl);have hxs:wx.heap.size=w.heap.size+1:=by rw[<-hwx];simp
 rw[hwx] at x1 x2 x3 hE0;obtain⟨K,hK⟩:∃K,r.key=K:=⟨_,rfl⟩;obtain⟨V,hV⟩:∃V,r.val=V:=⟨_,rfl⟩;obtain⟨dl,hdl⟩:∃dl,r.del=dl:=⟨_,rfl⟩;rw[hK] at x1;rw[hV] at x2;rw[hdl] at x3;have H:=Lib.hid h;have HE0:=Lib.hid hE0;have HW:=Lib.hid hwx;have HK:=Lib.hid hK;have HV:=Lib.hid hV;have HD:=Lib.hid hdl;have HN:=Lib.hid hnn;have HXS:=Lib.hid hxs;rw[hnn] at hl;have hst:c6g wx l r (.slice none 0 0) r.del 0 [] wx:=⟨by omega,by simp,rfl,⟨rfl,Or.inl ⟨rfl,rfl⟩⟩,Ext.refl wx⟩;have HST:=Lib.hid hst;have hcv:n<=vc/\vc<=9223372036854775807:=by
  rcases h.2 with⟨e,h0⟩|⟨g,cap,cur,fr,e,_,h1,h2,_⟩
  ·injection e with e1 e2 e3;subst e3;omega
  ·injection e with e1 e2 e3;subst e3;unfold maxLen at h2;omega
 rw[hnn] at hcap⊢;clear h hE0 hwx hK hV hdl hnn hX hst hxs;go_enter Tryz.func70,Tryz.ntmps70
 go_wp2_with fail
 rw[HW.out];go_loopw [5,6,7] (fun u dn i wr=>∃(k:Nat)(done:Bool)(acc:List (Nm×Nm)),dn=.bool done/\i=.int .i64 k/\c6g wx l r u done k acc wr) (fun _ _ i _=>n - (intOf i).toNat)
 case atStart=>exact⟨0,r.del,[],rfl,rfl,HST.out⟩
 case round=>
  obtain⟨k,done,acc,rfl,rfl,hI⟩:=hrel;obtain⟨ua,uc,rfl⟩:=ownsRow_form hI.row;have hkn:k<=n:=by have:=hI.le;rw[HN.out] at this;exact this
  have y1:=hI.ext.cell x1;have y2:=hI.ext.cell x2;have hlen:=hI.len;have hlen2:acc.length<=k+1:=by split at hlen<;>omega
  have hlen3:done=false->acc.length<=k:=fun h=>by rw[h] at hlen;simpa using hlen
  clear hlen;have hwx:w.heap.size<=wx.heap.size:=by have:=HXS.out;omega
  have hown:∀wz,Ext wr wz->wz.ownsRow wx.heap.size 60 2 (.slice ua acc.length uc) acc.length (acc.flatMap I9):=fun wz hz=>Dep.row hI.row wz fun b hb=>hz.block b (World.ownsRow.lt hI.row b hb).2;have HOW:=Lib.hid hown;have HI:=Lib.hid hI;clear hown hI;by_cases hlt:k<n
  ·have hkl:k<l.length:=by rw[HN.out];exact hlt
   have hp:l[k]?=some l[k]:=List.getElem?_eq_getElem hkl;obtain⟨P,hP⟩:∃P,l[k]=P:=⟨_,rfl⟩;rw[hP] at hp;obtain⟨g,cap,e,-,-,hgl,hcells⟩:=b6d a2K (H.out.keep fun b hb=>HE0.out.block b (H.out.lt hb)) hp;injection e with e1 e2 e3;subst e1;subst e3;have q0:=hcells 0 _ rfl;have q1:=hcells 1 _ rfl;rw[Nat.add_zero] at q0;have r0:=HI.out.ext.cell q0;have r1:=HI.out.ext.cell q1;have hki:(k:Int)<(n:Int):=by omega
   have hdrop:l.drop k=P::l.drop (k+1):=by
    rw[List.drop_eq_getElem_cons hkl,hP]
   have hres:=HI.out.res;rw[hdrop,a6Q,HK.out,HV.out] at hres;obtain⟨lb,hlb⟩:∃lb,Op.bytesLess P.1 K=lb:=⟨_,rfl⟩;rw[hlb] at hres;have HRES:=Lib.hid hres;clear hres hcells hdrop hp hP;by_cases hkey:P.1=K
   ·have hx:(P.1==K)=true:=beq_iff_eq.2 hkey;have hre:=HRES.out;rw[if_pos hkey] at hre;clear hkey HRES
    cases done with
    | true=>
     have HRE:=Lib.hid hre;clear hre hlb;go_wp2_with fail
     go_quiet (fail)
     go_wp2_with fail
     go_quiet (fail)
     go_wp2;go_roundw
     case rel=>
      refine⟨k+1,true,acc,rfl,by go_num,by omega,by first|(simp;omega)|(simp;exact hlen2)|omega,?_,?_,?_⟩
      ·have:=HRE.out;simpa using this
      ·exact HOW.out _ (Ext.drewN _ _)
      ·exact HI.out.ext.trans (Ext.drewN _ _)
     case measure=>simp[intOf];omega
    | false=>
     have hlen4:=hlen3 rfl
     cases lb with
     | true=>
      have HRE:=Lib.hid hre;clear hre;go_wp2_with fail
      go_quiet (fail)
      go_wp2_with fail
      go_quiet (fail)
      go_wp2;go_roundw
      case rel=>
       refine⟨k+1,false,acc,rfl,by go_num,by omega,by first|(simp;omega)|(simp;exact hlen2)|omega,?_,?_,?_⟩
       ·have:=HRE.out;simpa using this
       ·exact HOW.out _ (Ext.drewN _ _)
       ·exact HI.out.ext.trans (Ext.drewN _ _)
      case measure=>simp[intOf];omega
     | false=>
      have HRE:=Lib.hid hre;clear hre;go_wp2_with fail
      go_quiet (fail)
      go_wp2_with (at_builtin;go_must (refine D6 rfl _ _ 46 rfl wx.heap.size 60 i0 (.agg #[.string ⟨#[]⟩,.string ⟨#[]⟩]) 2 32 Tryz.underlying46 hi hz0 hz1 hz2 rfl (by omega) (.slice ua acc.length uc) acc.length _ rfl (World.ownsRow.alloc (HOW.out _ (Ext.drewN _ _)) (.cells #[.string ⟨K.toArray⟩,.string ⟨V.toArray⟩] 60)) (.slice (some ⟨_,0,none⟩) 1 1) 1 [.string ⟨K.toArray⟩,.string ⟨V.toArray⟩] rfl ⟨_,_,rfl,by omega,⟨by omega,fun h=>by cases h⟩,fun _=>⟨_,rfl,World.news_of_block (cs:=#[.string ⟨K.toArray⟩,.string ⟨V.toArray⟩]) (t:=60) (fr:=(0,0)) (a4g _ _ _)⟩⟩ rfl (by simp[Value.oneCell']) (by unfold maxLen;omega) (by omega) (((HI.out.ext).trans (Ext.drewN _ _)).new _).size ?_);intro b6 c6 w6 hown6 hgrow6 hat6;have hE6:Ext wx w6:=Below.grown (((HI.out.ext).trans (Ext.drewN _ _)).new _) hgrow6 (((HI.out.ext).trans (Ext.drewN _ _)).new _).size (fun j hj=>(World.ownsRow.lt (HOW.out _ (Ext.refl _)) j hj).1);have HO6:=Lib.hid hown6;have HE6:=Lib.hid hE6;clear hown6 hgrow6 hat6)
      have z1:=HE6.out.cell x1;have z2:=HE6.out.cell x2;have p0:=HE6.out.cell q0;have p1:=HE6.out.cell q1;have hw6:∀wz,Ext w6 wz->wz.ownsRow wx.heap.size 60 2 (.slice b6 (acc.length+1) c6) (acc.length+1) ((acc++[(K,V)]).flatMap I9):=fun wz hz=>by
       have:=Dep.row HO6.out wz fun b hb=>hz.block b (World.ownsRow.lt HO6.out b hb).2;rw[List.flatMap_append];simpa [I9] using this
      have HW6:=Lib.hid hw6;clear hw6 hE6;go_wp2_with fail
      go_quiet (fail)
      go_wp2;go_roundw
      case rel=>
       refine⟨k+1,true,(acc++[(K,V)]),rfl,by go_num,by omega,by first|(simp;omega)|(simp;exact hlen2)|omega,?_,?_,?_⟩
       ·have:=HRE.out;simpa using this
       ·rw[List.length_append];exact HW6.out _ (Ext.drewN _ _)
       ·exact HE6.out.trans (Ext.drewN _ _)
      case measure=>simp[intOf];omega
   ·have hx:(P.1==K)=false:=beq_eq_false_iff_ne.2 hkey;have hre:=HRES.out;rw[if_neg hkey] at hre;clear hkey HRES
    cases done with
    | true=>
     have HRE:=Lib.hid hre;clear hre hlb;go_wp2_with fail
     go_quiet (fail)
     go_wp2_with fail
     go_quiet (fail)
     go_wp2_with (at_builtin;go_must (refine D6 rfl _ _ 46 rfl wx.heap.size 60 i0 (.agg #[.string ⟨#[]⟩,.string ⟨#[]⟩]) 2 32 Tryz.underlying46 hi hz0 hz1 hz2 rfl (by omega) (.slice ua acc.length uc) acc.length _ rfl (World.ownsRow.alloc (HOW.out _ (Ext.drewN _ _)) (.cells #[.string ⟨P.1.toArray⟩,.string ⟨P.2.toArray⟩] 60)) (.slice (some ⟨_,0,none⟩) 1 1) 1 [.string ⟨P.1.toArray⟩,.string ⟨P.2.toArray⟩] rfl ⟨_,_,rfl,by omega,⟨by omega,fun h=>by cases h⟩,fun _=>⟨_,rfl,World.news_of_block (cs:=#[.string ⟨P.1.toArray⟩,.string ⟨P.2.toArray⟩]) (t:=60) (fr:=(0,0)) (a4g _ _ _)⟩⟩ rfl (by simp[Value.oneCell']) (by unfold maxLen;omega) (by omega) ((HI.out.ext.trans (Ext.drewN _ _)).new _).size ?_);intro b7 c7 w7 hown7 hgrow7 hat7;have hE7:Ext wx w7:=Below.grown ((HI.out.ext.trans (Ext.drewN _ _)).new _) hgrow7 ((HI.out.ext.trans (Ext.drewN _ _)).new _).size (fun j hj=>(World.ownsRow.lt (HOW.out _ (Ext.refl _)) j hj).1);have HO7:=Lib.hid hown7;have HE7:=Lib.hid hE7;clear hown7 hgrow7 hat7)
     go_roundw
     case rel=>
      refine⟨k+1,true,acc++[P],rfl,by go_num,by omega,by first|(simp;omega)|(simp;exact hlen2)|omega,?_,?_,HE7.out⟩
      ·have:=HRE.out;simpa using this
      ·have:=HO7.out;rw[List.flatMap_append];simpa [I9] using this
     case measure=>simp[intOf];omega
    | false=>
     have hlen4:=hlen3 rfl
     cases lb with
     | true=>
      have HRE:=Lib.hid hre;clear hre;go_wp2_with fail
      go_quiet (fail)
      go_wp2_with fail
      go_quiet (fail)
      go_wp2_with (at_builtin;go_must (refine D6 rfl _ _ 46 rfl wx.heap.size 60 i0 (.agg #[.string ⟨#[]⟩,.string ⟨#[]⟩]) 2 32 Tryz.underlying46 hi hz0 hz1 hz2 rfl (by omega) (.slice ua acc.length uc) acc.length _ rfl (World.ownsRow.alloc (HOW.out _ (Ext.drewN _ _)) (.cells #[.string ⟨P.1.toArray⟩,.string ⟨P.2.toArray⟩] 60)) (.slice (some ⟨_,0,none⟩) 1 1) 1 [.string ⟨P.1.toArray⟩,.string ⟨P.2.toArray⟩] rfl ⟨_,_,rfl,by omega,⟨by omega,fun h=>by cases h⟩,fun _=>⟨_,rfl,World.news_of_block (cs:=#[.string ⟨P.1.toArray⟩,.string ⟨P.2.toArray⟩]) (t:=60) (fr:=(0,0)) (a4g _ _ _)⟩⟩ rfl (by simp[Value.oneCell']) (by unfold maxLen;omega) (by omega) ((HI.out.ext.trans (Ext.drewN _ _)).new _).size ?_);intro b7 c7 w7 hown7 hgrow7 hat7;have hE7:Ext wx w7:=Below.grown ((HI.out.ext.trans (Ext.drewN _ _)).new _) hgrow7 ((HI.out.ext.trans (Ext.drewN _ _)).new _).size (fun j hj=>(World.ownsRow.lt (HOW.out _ (Ext.refl _)) j hj).1);have HO7:=Lib.hid hown7;have HE7:=Lib.hid hE7;clear hown7 hgrow7 hat7)
      go_roundw
      case rel=>
       refine⟨k+1,false,acc++[P],rfl,by go_num,by omega,by first|(simp;omega)|(simp;exact hlen2)|omega,?_,?_,HE7.out⟩
       ·have:=HRE.out;simpa using this
       ·have:=HO7.out;rw[List.flatMap_append];simpa [I9] using this
      case measure=>simp[intOf];omega
     | false=>
      have HRE:=Lib.hid hre;clear hre;go_wp2_with fail
      go_quiet (fail)
      go_wp2_with (at_builtin;go_must (refine D6 rfl _ _ 46 rfl wx.heap.size 60 i0 (.agg #[.string ⟨#[]⟩,.string ⟨#[]⟩]) 2 32 Tryz.underlying46 hi hz0 hz1 hz2 rfl (by omega) (.slice ua acc.length uc) acc.length _ rfl (World.ownsRow.alloc (HOW.out _ (Ext.drewN _ _)) (.cells #[.string ⟨K.toArray⟩,.string ⟨V.toArray⟩] 60)) (.slice (some ⟨_,0,none⟩) 1 1) 1 [.string ⟨K.toArray⟩,.string ⟨V.toArray⟩] rfl ⟨_,_,rfl,by omega,⟨by omega,fun h=>by cases h⟩,fun _=>⟨_,rfl,World.news_of_block (cs:=#[.string ⟨K.toArray⟩,.string ⟨V.toArray⟩]) (t:=60) (fr:=(0,0)) (a4g _ _ _)⟩⟩ rfl (by simp[Value.oneCell']) (by unfold maxLen;omega) (by omega) (((HI.out.ext).trans (Ext.drewN _ _)).new _).size ?_);intro b6 c6 w6 hown6 hgrow6 hat6;have hE6:Ext wx w6:=Below.grown (((HI.out.ext).trans (Ext.drewN _ _)).new _) hgrow6 (((HI.out.ext).trans (Ext.drewN _ _)).new _).size (fun j hj=>(World.ownsRow.lt (HOW.out _ (Ext.refl _)) j hj).1);have HO6:=Lib.hid hown6;have HE6:=Lib.hid hE6;clear hown6 hgrow6 hat6)
      have z1:=HE6.out.cell x1;have z2:=HE6.out.cell x2;have p0:=HE6.out.cell q0;have p1:=HE6.out.cell q1;have hw6:∀wz,Ext w6 wz->wz.ownsRow wx.heap.size 60 2 (.slice b6 (acc.length+1) c6) (acc.length+1) ((acc++[(K,V)]).flatMap I9):=fun wz hz=>by
       have:=Dep.row HO6.out wz fun b hb=>hz.block b (World.ownsRow.lt HO6.out b hb).2;rw[List.flatMap_append];simpa [I9] using this
      have HW6:=Lib.hid hw6;clear hw6 hE6;go_wp2_with fail
      go_quiet (fail)
      go_wp2_with (at_builtin;go_must (refine D6 rfl _ _ 46 rfl wx.heap.size 60 i0 (.agg #[.string ⟨#[]⟩,.string ⟨#[]⟩]) 2 32 Tryz.underlying46 hi hz0 hz1 hz2 rfl (by omega) (.slice b6 (acc.length+1) c6) (acc.length+1) _ rfl (World.ownsRow.alloc (HW6.out _ (Ext.drewN _ _)) (.cells #[.string ⟨P.1.toArray⟩,.string ⟨P.2.toArray⟩] 60)) (.slice (some ⟨_,0,none⟩) 1 1) 1 [.string ⟨P.1.toArray⟩,.string ⟨P.2.toArray⟩] rfl ⟨_,_,rfl,by omega,⟨by omega,fun h=>by cases h⟩,fun _=>⟨_,rfl,World.news_of_block (cs:=#[.string ⟨P.1.toArray⟩,.string ⟨P.2.toArray⟩]) (t:=60) (fr:=(0,0)) (a4g _ _ _)⟩⟩ rfl (by simp[Value.oneCell']) (by unfold maxLen;omega) (by omega) (((HE6.out).trans (Ext.drewN _ _)).new _).size ?_);intro b7 c7 w7 hown7 hgrow7 hat7;have hE7:Ext wx w7:=Below.grown (((HE6.out).trans (Ext.drewN _ _)).new _) hgrow7 (((HE6.out).trans (Ext.drewN _ _)).new _).size (fun j hj=>(World.ownsRow.lt (HW6.out _ (Ext.refl _)) j hj).1);have HO7:=Lib.hid hown7;have HE7:=Lib.hid hE7;clear hown7 hgrow7 hat7)
      go_roundw
      case rel=>
       refine⟨k+1,true,(acc++[(K,V)])++[P],rfl,by go_num,by omega,by first|(simp;omega)|(simp;exact hlen2)|omega,?_,?_,HE7.out⟩
       ·have:=HRE.out;simpa using this
       ·have:=HO7.out;rw[List.flatMap_append];simpa [I9] using this
      case measure=>simp[intOf];omega
  ·obtain rfl:k=n:=by omega
   have hres:=HI.out.res;rw[List.drop_eq_nil_of_le (by rw[HN.out];exact Nat.le_refl _),a6Q,HK.out,HV.out] at hres;have HRE:=Lib.hid hres;clear hres
   cases done with
   | true=>
    have hfin:wr.ownsRow w.heap.size 60 2 (.slice ua acc.length uc) (a6R l r).length ((a6R l r).flatMap I9)/\Ext w wr:=by
     have e:=HRE.out;simp at e;rw[e];exact⟨J8 (HOW.out wr (Ext.refl wr)) (by omega),HE0.out.trans HI.out.ext⟩
    have HF:=Lib.hid hfin;clear hfin;go_wp2_with fail
    go_ret
    exact⟨_,rfl,HF.out⟩
   | false=>
    have hlen4:=hlen3 rfl;have e:=HRE.out;simp at e;have HEQ:=Lib.hid e;clear e;go_wp2_with (at_builtin;go_must (refine D6 rfl _ _ 46 rfl wx.heap.size 60 i0 (.agg #[.string ⟨#[]⟩,.string ⟨#[]⟩]) 2 32 Tryz.underlying46 hi hz0 hz1 hz2 rfl (by omega) (.slice ua acc.length uc) acc.length _ rfl (World.ownsRow.alloc (HOW.out _ (Ext.refl _)) (.cells #[.string ⟨K.toArray⟩,.string ⟨V.toArray⟩] 60)) (.slice (some ⟨_,0,none⟩) 1 1) 1 [.string ⟨K.toArray⟩,.string ⟨V.toArray⟩] rfl ⟨_,_,rfl,by omega,⟨by omega,fun h=>by cases h⟩,fun _=>⟨_,rfl,World.news_of_block (cs:=#[.string ⟨K.toArray⟩,.string ⟨V.toArray⟩]) (t:=60) (fr:=(0,0)) (heap_alloc_new _ _)⟩⟩ rfl (by simp[Value.oneCell']) (by unfold maxLen;omega) (by omega) ((HI.out.ext).new _).size ?_);intro b6 c6 w6 hown6 hgrow6 hat6;have hE6:Ext wx w6:=Below.grown ((HI.out.ext).new _) hgrow6 ((HI.out.ext).new _).size (fun j hj=>(World.ownsRow.lt (HOW.out _ (Ext.refl _)) j hj).1);have HO6:=Lib.hid hown6;have HE6:=Lib.hid hE6;clear hown6 hgrow6 hat6)
    go_ret;have hfin:=HO6.out;refine⟨_,rfl,?_,HE0.out.trans HE6.out⟩;rw[HEQ.out,List.length_append,List.flatMap_append];simpa [I9] using J8 hfin (by omega)
end
section
open Go.RowKit Go.Lib Go.Maps Dk Pl
theorem b8d{l:List UInt8}(h:l.length<=1099511627776):17*(J9 l).length<=1099511627776:=by
 have h1:=b2G l;have h2:∀(L:List (Nat×Rec)),(∀p∈L,17<=p.2.size)->17*L.length<=sizes L:=by
  intro L
  induction L with
  | nil=>intro _;simp[sizes]
  | cons p L ih=>
   intro hL;have:=ih fun q hq=>hL q (List.mem_cons_of_mem _ hq);have:=hL p (List.mem_cons_self ..);unfold sizes at *;simp;omega
 have:=h2 _ (b6O l);omega
theorem b46(rb gen:Nat)(ids:List Int)(bss:List (List UInt8))(w:World)(h:a0I w rb gen ids bss)(hn:ids.length<=60)(hl:∀i,(bss.getD i []).length<=1099511627776):
 Calls Tryz.prog 19 #[y8 rb] w fun e w'=>∃u,e=.returned u/\w'.ownsRow w.heap.size 60 2 u (a6S (J7 bss)).length ((a6S (J7 bss)).flatMap I9)/\Ext w w':=by
 obtain⟨n,hnn⟩:∃n,ids.length=n:=⟨_,rfl⟩;obtain⟨sa,sc,hb,hsc,hsc2,hbl,hsegs⟩:=id h;rw[hnn] at hb hsc hbl hsegs hn;have hsl:(J7 bss).length=n:=by unfold J7;rw[List.length_map];exact hbl
 have hfew:∀i,17*((J7 bss).getD i []).length<=1099511627776:=by
  intro i;rcases Nat.lt_or_ge i bss.length with hi|hi
  ·rw[a3S bss i hi];exact b8d (hl i)
  ·rw[List.getD_eq_getElem?_getD,List.getElem?_eq_none (by rw[hsl];omega)];simp
 have hal:∀i m,i<n->m<=((J7 bss).getD i []).length->(U8 (ahead (J7 bss) i m)).length<=4000000000000:=by
  intro i m hi hm;have h1:=b8b hfew i m (by omega) hm;have h2:=b3m (ahead (J7 bss) i m);have h3:(i+1)*1099511627776<=60*1099511627776:=Nat.mul_le_mul_right _ (by omega);omega
 have b1:=(hb.cell 1).trans (show _=some (Value.slice sa n sc) from rfl);have H:=Lib.hid h;have HSG:=Lib.hid hsegs;have HLL:=Lib.hid hl;have HBL:=Lib.hid hbl;have HSL:=Lib.hid hsl;have HAL:=Lib.hid hal;clear h hsegs hl hnn hbl hb hfew hsl hal;unfold y8;go_enter Tryz.func19,Tryz.ntmps19
 go_wp2;go_loopw [3,4] (fun u i wr=>∃k:Nat,i=.int .i64 k/\k<=n/\wr.ownsRow w.heap.size 60 2 u (U8 (ahead (J7 bss) k 0)).length ((U8 (ahead (J7 bss) k 0)).flatMap I9)/\Ext w wr) (fun _ i _=>n - (intOf i).toNat)
 case atStart=>exact⟨0,rfl,by omega,⟨rfl,Or.inl ⟨rfl,rfl⟩⟩,Ext.refl w⟩
 case round=>
  obtain⟨k,rfl,hk,hown,hE⟩:=hrel;obtain⟨ua0,uc0,rfl⟩:=ownsRow_form hown;have b1r:=hE.cell b1;by_cases hlt:k<n
  ·obtain⟨g,rfl,s0,-,u,s1,hrow⟩:=HSG.out k hlt;obtain⟨ua,uc,rfl⟩:=hrow.slice;have hcp:=hrow.cap;have s1':=hE.cell s1;have hki:(k:Int)<(n:Int):=by omega
   have hseg:=a3S bss k (by have:=HBL.out;omega);have halk:=fun m hm=>HAL.out k m hlt hm;rw[hseg] at halk;obtain⟨L,hL⟩:∃L,J9 (bss.getD k [])=L:=⟨_,rfl⟩;rw[hL] at hrow s1' hcp hseg halk;unfold maxLen at hcp;have HSE:=Lib.hid hseg;have HA:=Lib.hid halk;have HR:=Lib.hid hrow;have HE:=Lib.hid hE;have HO:=Lib.hid hown;clear hseg halk hrow hE hown s0 s1 hL;go_wp2_with fail
   go_loopw [3,5] (fun u j wi=>∃m:Nat,j=.int .i64 m/\m<=L.length/\wi.ownsRow w.heap.size 60 2 u (U8 (ahead (J7 bss) k m)).length ((U8 (ahead (J7 bss) k m)).flatMap I9)/\Ext wr wi) (fun _ j _=>L.length - (intOf j).toNat)
   case atStart=>exact⟨0,rfl,by omega,HO.out,Ext.refl wr⟩
   case round=>
    rename World=>wi
    obtain⟨m,rfl,hm,hrowi,hEi⟩:=hrel;obtain⟨va0,vc0,rfl⟩:=ownsRow_form hrowi;have b1i:=hEi.cell b1r;have s1i:=hEi.cell s1';by_cases hml:m<L.length
    ·have hp:L[m]?=some L[m]:=List.getElem?_eq_getElem hml;obtain⟨P,hP⟩:∃P,L[m]=P:=⟨_,rfl⟩;rw[hP] at hp;obtain⟨gr,cap,hu,hcap,hcap2,hgl,hcells⟩:=b6d b3n (HR.out.keep fun b hb=>(HE.out.trans hEi).block b (HR.out.lt hb)) hp;injection hu with h1 h2 h3;subst h1;subst h3;have hmi:(m:Int)<(L.length:Int):=by omega
     have q0:=hcells 0 _ rfl;have q1:=hcells 1 _ rfl;have q2:=hcells 2 _ rfl;have q3:=hcells 3 _ rfl;have q4:=hcells 4 _ rfl;rw[Nat.add_zero] at q0;have hnx:=b45 (segs:=J7 bss) (i:=k) (m:=m) (q:=P) (by rw[HSE.out];exact hp);have hput:=put_any _ _ P.2 wi (b6f hrowi) (HA.out m hm);have HP:=Lib.hid hput;have HNX:=Lib.hid hnx;have HEI:=Lib.hid hEi;have hsz:w.heap.size<=wi.heap.size:=(HE.out.trans hEi).size;clear hput hnx hEi hcells hp hP hrowi;go_wp2_with fail
     refine HP.out.mono ?_;rintro e w2 ⟨u2,rfl,hown2,hE2⟩;have hfin:w2.ownsRow w.heap.size 60 2 u2 (U8 (ahead (J7 bss) k (m+1))).length ((U8 (ahead (J7 bss) k (m+1))).flatMap I9)/\Ext wr w2:=by
      rw[HNX.out,b1X];exact⟨J8 hown2 hsz,HEI.out.trans hE2⟩
     have HF:=Lib.hid hfin;clear hfin hown2 hE2;go_wp2_with fail
     go_roundw
     case rel=>exact⟨m+1,by go_num,by omega,HF.out⟩
     case measure=>simp[intOf];omega
    ·obtain rfl:m=L.length:=by omega
     have hfin:wi.ownsRow w.heap.size 60 2 (.slice va0 (U8 (ahead (J7 bss) k L.length)).length vc0) (U8 (ahead (J7 bss) (k+1) 0)).length ((U8 (ahead (J7 bss) (k+1) 0)).flatMap I9)/\Ext w wi:=by
      have e:=b0R (segs:=J7 bss) (i:=k) (by rw[HSL.out];exact hlt);rw[HSE.out] at e;rw[<-e];exact⟨hrowi,HE.out.trans hEi⟩
     have HF:=Lib.hid hfin;clear hfin hrowi hEi;go_wp2_with fail
     go_roundw
     case rel=>exact⟨k+1,by go_num,by omega,HF.out⟩
     case measure=>simp[intOf];omega
  ·obtain rfl:k=n:=by omega
   have hfin:wr.ownsRow w.heap.size 60 2 (.slice ua0 (U8 (ahead (J7 bss) k 0)).length uc0) (a6S (J7 bss)).length ((a6S (J7 bss)).flatMap I9)/\Ext w wr:=by
    have e:=b8a (J7 bss);rw[HSL.out] at e;unfold a6S;rw[<-e];exact⟨hown,hE⟩
   have HF:=Lib.hid hfin;clear hfin hown hE;go_wp2_with fail
   exact bodyPost_ret (v:=.slice ua0 (U8 (ahead (J7 bss) k 0)).length uc0) (by simp[results,Tryz.results19]) rfl ⟨_,rfl,HF.out⟩
end
section
open Go.RowKit Go.Lib Go.Maps Dk Pl
theorem c5F:U6 5=.seq (U0 5) (U6 6):=by kernel_rfl
theorem c5G:U6 6=.seq (U0 6) (U6 7):=by kernel_rfl
theorem c5H:U6 7=.seq (U0 7) (U6 8):=by kernel_rfl
theorem c5I:U6 8=.seq (U0 8) (U6 9):=by kernel_rfl
theorem c5J:U6 9=.seq (U0 9) (U6 10):=by kernel_rfl
theorem c4l:U6 10=.seq (U0 10) (U6 11):=by kernel_rfl
theorem c4m:U6 11=.seq (U0 11) (U6 12):=by kernel_rfl
section
variable{F:Nat->Prop}{a:Nat}{D:Dk.D}{w:World}{T:Array Value}
def cg5(k:Nat):Bool:=k==42||k==43||k==41||k==44||k==45||k==9||k==10
def QN5(T:Array Value)(cd:Int)(w:World):Exit->Act->World->Prop
 | .normal,a',w'=>a'.defers=[]/\Kp cg5 T a'.tmps/\a'.tmps[9]?=some (.int .i64 cd)/\Ext w w'
 | _,_,_=>False
theorem c4n{y:Value}{er:Er}(hT:T.size=154)(h10:T[8]?=some y)(hL:Laid w)(he:ErrAt w y er):(U0 5).wp Tryz.prog (QN5 T er.code w) ⟨T,[]⟩ w:=by
 obtain⟨_,h10'⟩:=slot h10;have htl:=a5C er y w he hL;obtain⟨cd,hcd⟩:∃cd,er.code=cd:=⟨_,rfl⟩;obtain⟨nm,hnm⟩:∃nm,strV er.name=nm:=⟨_,rfl⟩;rw[hcd,hnm] at htl;rw[hcd];have HTL:=Lib.hid htl;clear htl he hL h10 hcd hnm;unfold U0 U6;simp only[Code.behind,Code.head,Tryz.f3,Option.getD_some];go_wp2_with fail
 refine HTL.out.mono ?_;rintro e w1 ⟨rfl,hE1⟩;have HE:=Lib.hid hE1;clear hE1 HTL h10';go_wp2;refine⟨rfl,?_,?_,HE.out⟩
 ·dsimp only;exact Kp.set (Kp.set (Kp.set (Kp.set (Kp.set (Kp.set (Kp.set (Kp.refl _ _) rfl) rfl) rfl) rfl) rfl) rfl) rfl
 ·dsimp only;exact a3k (a1e (by simp only[Array.size_setIfInBounds,hT];decide)) (by decide)
def cg6(k:Nat):Bool:=k==46||k==47||k==11
def QN6(F:Nat->Prop)(a:Nat)(D:Dk.D)(T:Array Value)(w:World):Exit->Act->World->Prop
 | .normal,a',w'=>a'.defers=[]/\Kp cg6 T a'.tmps/\∃fv rows,a'.tmps[11]?=some fv/\a2b w' w.heap.size fv rows D.files/\y9 w' F a D/\Chg F F w w'
 | _,_,_=>False
theorem c4o(hT:T.size=154)(h8:T[6]?=some (y8 a))(hD:y9 w F a D)(hc:D.Calm)(hfit:D.Fit):(U0 6).wp Tryz.prog (QN6 F a D T w) ⟨T,[]⟩ w:=by
 obtain⟨_,h8'⟩:=slot h8;have hfs:=b6U F a D w hD hc (by have:=hfit.len;omega) (fun x hx=>by have:=hfit.data x hx;omega) (fun p hp=>by have:=hfit.names p hp;unfold maxLen;omega);have HFS:=Lib.hid hfs;clear hfs hD hc hfit h8;unfold y8 at h8' HFS;unfold U0 U6;simp only[Code.behind,Code.head,Tryz.f3,Option.getD_some];go_wp2_with fail
 refine HFS.out.mono ?_;rintro e w1 ⟨fv,rows,rfl,hR,hD2,hC2⟩;have HR:=Lib.hid hR;have HD:=Lib.hid hD2;have HC:=Lib.hid hC2;clear hR hD2 hC2 HFS h8';go_wp2;refine⟨rfl,?_,fv,rows,?_,HR.out,HD.out,HC.out⟩
 ·dsimp only;exact Kp.set (Kp.set (Kp.set (Kp.refl _ _) rfl) rfl) rfl
 ·dsimp only;exact a1e (by simp only[Array.size_setIfInBounds,hT];decide)
def cg7(k:Nat):Bool:=k==49||k==50||k==48||k==51||k==52||k==53||k==12||k==13||k==14
def QN7(l:Fl)(T:Array Value)(w:World):Exit->Act->World->Prop
 | .normal,a',w'=>a'.defers=[]/\Kp cg7 T a'.tmps/\∃v,a'.tmps[12]?=some v/\a'.tmps[13]?=some (.int .i64 (P9 l).2.1)/\a4u l w (.returned (.tuple #[v,.int .i64 (P9 l).2.1,strV (P9 l).2.2])) w'
 | _,_,_=>False
theorem c4p{fv:Value}{l:Fl}(hT:T.size=154)(h13:T[11]?=some fv)(hf:a2s w fv l)(hl:∀p∈l,p.2.length<=1099511627776):(U0 7).wp Tryz.prog (QN7 l T w) ⟨T,[]⟩ w:=by
 obtain⟨_,h13'⟩:=slot h13;have hro:=b3q fv l w hf hl;have HRO:=Lib.hid hro;clear hro hf hl h13;unfold U0 U6;simp only[Code.behind,Code.head,Tryz.f3,Option.getD_some];go_wp2_with fail
 refine HRO.out.mono ?_;intro e w1 hro;obtain⟨v,rfl,h2⟩:=id hro;have HR:=Lib.hid hro;clear hro h2 HRO h13';go_wp2;refine⟨rfl,?_,v,?_,?_,HR.out⟩
 ·dsimp only;exact Kp.set (Kp.set (Kp.set (Kp.set (Kp.set (Kp.set (Kp.set (Kp.set (Kp.set (Kp.refl _ _) rfl) rfl) rfl) rfl) rfl) rfl) rfl) rfl) rfl
 ·dsimp only;exact a3k (a3k (a1e (by simp only[Array.size_setIfInBounds,hT];decide)) (by decide)) (by decide)
 ·dsimp only;exact a3k (a1e (by simp only[Array.size_setIfInBounds,hT];decide)) (by decide)
def c6s(k:Nat):Bool:=k==66||k==67||k==15
def c5K(segs:List (List (Nat×Rec)))(T:Array Value)(w:World):Exit->Act->World->Prop
 | .normal,a',w'=>a'.defers=[]/\Kp c6s T a'.tmps/\∃u,a'.tmps[15]?=some u/\w'.ownsRow w.heap.size 60 2 u (a6S segs).length ((a6S segs).flatMap I9)/\Ext w w'
 | _,_,_=>False
theorem c2o{rb gen:Nat}{ids:List Int}{bss:List (List UInt8)}(hT:T.size=154)(h12:T[12]?=some (y8 rb))(h:a0I w rb gen ids bss)(hn:ids.length<=60)(hl:∀i,(bss.getD i []).length<=1099511627776):(U0 10).wp Tryz.prog (c5K (J7 bss) T w) ⟨T,[]⟩ w:=by
 obtain⟨_,h12'⟩:=slot h12;have hc:=b46 rb gen ids bss w h hn hl;have HC:=Lib.hid hc;clear hc h12 h hl;unfold y8 at h12' HC;unfold U0 U6;simp only[Code.behind,Code.head,Tryz.f3,Option.getD_some];go_wp2_with fail
 refine HC.out.mono ?_;rintro e w1 ⟨u,rfl,hR,hE⟩;have HR:=Lib.hid hR;have HE:=Lib.hid hE;clear hR hE HC h12';go_wp2;refine⟨rfl,?_,u,?_,HR.out,HE.out⟩
 ·dsimp only;exact Kp.set (Kp.set (Kp.set (Kp.refl _ _) rfl) rfl) rfl
 ·dsimp only;exact a1e (by simp only[Array.size_setIfInBounds,hT];decide)
end
end
section
open Dk Pl
theorem b67(bss:List (List UInt8)):∀n,n<=bss.length->(a9I bss n).map Prod.snd=((J7 bss).take n).flatten:=by
 intro n
 induction n with
 | zero=>intro _;simp[a9I]
 | succ n ih=>
  intro hn;have hl:(J7 bss).length=bss.length:=by unfold J7;rw[List.length_map]
  have e:(J7 bss).take (n+1)=(J7 bss).take n++[J9 (bss.getD n [])]:=by
   rw[List.take_add_one,List.getElem?_eq_getElem (by omega)];have:=a3S bss n (by omega);rw[List.getD_eq_getElem?_getD,List.getElem?_eq_getElem (by omega)] at this;simp at this;simp[this]
  rw[b0w,List.map_append,ih (by omega),e,List.flatten_append,List.map_map,show(Prod.snd∘fun p:Nat×Rec=>((n,p):Fd))=id from rfl,List.map_id];simp
theorem b4f:∀(l A:List Fd)(m:List (Nm×Nm)),(∀p∈m,∃f,lastOf p.1 A=some f/\f.2.2.del=false/\f.2.2.val=p.2)->
 ∀p∈(l.map Prod.snd).foldl (fun m q=>a6R m q.2) m,∃f,lastOf p.1 (A++l)=some f/\f.2.2.del=false/\f.2.2.val=p.2:=by
 intro l
 induction l with
 | nil=>intro A m h p hp;simpa using h p hp
 | cons f l ih=>
  intro A m h p hp;have:=ih (A++[f]) (a6R m f.2.2) (fun q hq=>by
   rw[a9J];rcases(b8c f.2.2 q.1 m f.2.2.del).2 q hq with⟨h1,h2⟩|⟨h1,rfl⟩
   ·obtain⟨g,hg⟩:=h q h1;refine⟨g,?_,hg.2⟩;have e:lastOf q.1 [f]=none:=by
     rw[lastOf,lastOf,if_neg fun e=>h2 e.symm];rfl
    rw[e,hg.1];rfl
   ·exact⟨f,by simp[lastOf],h1,rfl⟩) p hp
  rwa [List.append_assoc] at this
theorem b9L{bss:List (List UInt8)}{n:Nat}(hn:bss.length=n):∀p∈a6S (J7 bss),∃f,D9 (Z5 bss n) p.1=some f/\f.2.2.del=false/\f.2.2.val=p.2:=by
 intro p hp;have e:(J7 bss).flatten=(a9I bss n).map Prod.snd:=by
  rw[b67 bss n (by omega),List.take_of_length_le (by unfold J7;rw[List.length_map];omega)]
 unfold a6S U8 at hp;rw[e] at hp;obtain⟨f,h1,h2⟩:=b4f (a9I bss n) [] [] (fun _ h=>by cases h) p hp;refine⟨f,?_,h2⟩;rw[a8y,b0x];rw[List.nil_append] at h1;rw[h1];rfl
theorem b5W{bss:List (List UInt8)}{n:Nat}{key:Nm}{f:Fd}(h:D9 (Z5 bss n) key=some f):f.1<n/\f.2∈J9 (bss.getD f.1 [])/\f.2.2.key=key:=by
 rw[a8y,b0x] at h
 cases e:lastOf key (a9I bss n) with
 | none=>rw[e] at h;cases h
 | some g=>
  rw[e] at h;simp at h;subst h;obtain⟨h1,h2⟩:=b39 e;unfold a9I at h1;obtain⟨i,hi,h3⟩:=List.mem_flatMap.1 h1;obtain⟨q,hq,rfl⟩:=List.mem_map.1 h3;exact⟨List.mem_range.1 hi,hq,h2⟩
end
section
open Dk Pl
theorem b1B:∀(n off:Nat)(l:List UInt8),∀p∈O9 n off l,dec (l.drop p.1)=some p.2:=by
 intro n
 induction n with
 | zero=>intro off l p h;cases h
 | succ n ih=>
  intro off l p hp;unfold O9 at hp
  cases hd:dec (l.drop off) with
  | none=>rw[hd] at hp;cases hp
  | some r=>
   rw[hd] at hp;rcases List.mem_cons.1 hp with rfl|hp
   ·exact hd
   ·exact ih _ _ p hp
theorem b0B{l:List UInt8}{p:Nat×Rec}(h:p∈J9 l):dec (l.drop p.1)=some p.2:=b1B _ _ _ p h
theorem b9B{l:List UInt8}{p:Nat×Rec}(h:p∈J9 l):p.1+p.2.size<=l.length:=by
 have:=a2S (b0B h);rw[List.length_drop] at this;omega
def a8J(r q:Rec):Bool:=decide (r.seq=q.seq)&&(decide (r.key=q.key)&&(decide (r.val=q.val)&&decide (r.del=q.del)))
def a4L(D:D)(nm:Nm)(f:Fd):Nm×Bool×Er:=
 match dec (D.readAt nm f.2.1 f.2.2.size).1 with
 | none=>([],false,.file 3 nm)
 | some r=>if (D.readAt nm f.2.1 f.2.2.size).2.1=.ok/\a8J r f.2.2=true then(r.val,true,.ok) else([],false,.file 3 nm)
def a5b(D:D)(ids:List Int)(last:List (Nm×Fd))(key:Nm):Nm×Bool×Er:=
 match D9 last key with
 | none=>([],false,.ok)
 | some f=>if f.2.2.del=true then([],false,.ok) else a4L D (D7 G8 (ids.getD f.1 0).toNat) f
theorem b2O{D:D}(h:D.Calm)(nm:Nm)(i k:Int):(D.readAt nm i k).2.2=D/\((D.readAt nm i k).2.1=.ok\/(D.readAt nm i k).1=[]/\(D.readAt nm i k).2.1=.file 11 nm):=by
 rw[h.readAt];split
 ·exact⟨rfl,.inr ⟨rfl,rfl⟩⟩
 ·exact⟨rfl,.inl rfl⟩
theorem b9C(D:D)(nm:Nm)(f:Fd):a4L D nm f=([],false,.file 3 nm)\/a4L D nm f=(f.2.2.val,true,.ok):=by
 unfold a4L;split
 ·exact .inl rfl
 ·rename_i r hr;split
  ·rename_i h;have h2:=h.2;unfold a8J at h2;simp at h2;rw[h2.2.2.1];exact .inr rfl
  ·exact .inl rfl
end
section
open Go.RowKit Go.Lib Go.Maps Dk Pl
theorem c5T(r q:Rec)(w:World):(binOp .neq 111 (.agg #[.int .u64 r.seq,.string ⟨r.key.toArray⟩,.string ⟨r.val.toArray⟩,.bool r.del]) (.agg #[.int .u64 q.seq,.string ⟨q.key.toArray⟩,.string ⟨q.val.toArray⟩,.bool q.del])).run Tryz.prog w=.ok (.bool (!a8J r q)) w:=by
 have key:(Op.equalIn 10000 111 (.agg #[.int .u64 r.seq,.string ⟨r.key.toArray⟩,.string ⟨r.val.toArray⟩,.bool r.del]) (.agg #[.int .u64 q.seq,.string ⟨q.key.toArray⟩,.string ⟨q.val.toArray⟩,.bool q.del])).run Tryz.prog w=.ok (a8J r q) w:=by
  rw[show(10000:Nat)=9999+1 from rfl,run_equalIn_struct w 9999 111 _ _ (by kernel_rfl) (by kernel_rfl)];simp only[Program.fieldsOf,Tryz.underlying111];go_simp
  unfold a8J;by_cases h1:r.seq=q.seq<;>by_cases h2:r.key=q.key<;>by_cases h3:r.val=q.val<;>by_cases h4:r.del=q.del<;>simp[h1,h2,h3,h4]<;>omega
 simp[binOp,Op.equal,Op.maxDepth,key]
def b2U(F:Nat->Prop)(a:Nat)(D:D)(r:Nm×Bool×Er)(w:World)(e:Ending)(w':World):Prop:=
 ∃ev,e=.returned (.tuple #[strV r.1,.bool r.2.1,ev])/\Held w' F (fun W=>ErrAt W ev r.2.2)/\y9 w' F a D/\Chg F F w w'
theorem b9S(F:Nat->Prop)(a sb gen:Nat)(D:D)(ids:List Int)(bss:List (List UInt8))(key:Nm)(w:World)(h:y9 w F a D)(hc:D.Calm)(hfit:D.Fit)(hst:Held w F (fun W=>a8j W sb a gen ids bss))(hids:a4j ids)(hk:key.length<=maxLen)(hP:Held w F a0F)(hb1:∀i,(bss.getD i []).length<=1099511627776):
 Calls Tryz.prog 22 #[y8 sb,strV key] w (b2U F a D (a5b D ids (Z5 bss ids.length) key) w):=by
 obtain⟨ia,ic,Cb,r,vv,hb,-,hS,hM,hbl⟩:=hst.get;have hlk:=hM.lookOk a2a a19 Tryz.underlying136 (b69 w) (a4Z hk);have d0:=(hb.cell 0).trans (show _=some (y8 a) from rfl);have d3:=(hb.cell 3).trans (show _=some (Value.slice (some ⟨Cb,0,none⟩) ids.length ids.length) from rfl);have d4:=(hb.cell 4).trans (show _=some (Value.map (some r)) from rfl);have H:=Lib.hid h;have HST:=Lib.hid hst;have HPL:=Lib.hid hP;have HC:=Lib.hid hc;have HFIT:=Lib.hid hfit;have HS:=Lib.hid hS;have HIDS:=Lib.hid hids;have HB1:=Lib.hid hb1;have hFlt:=h.low;have HFL:=Lib.hid hFlt;clear h hst hP hc hfit hb hS hM hids hb1 hFlt
 cases hlook:D9 (Z5 bss ids.length) key with
 | none=>
  rw[hlook] at hlk;have hg:a5b D ids (Z5 bss ids.length) key=([],false,.ok):=by unfold a5b;rw[hlook]
  have hlk1:(Instr.lookup 136 (.map (some r)) (.string ⟨key.toArray⟩) true).run Tryz.prog w=.ok (.tuple #[.agg #[.int .i64 0,.int .i64 0,.int .i64 0,.int .u64 0,.string ⟨#[]⟩,.string ⟨#[]⟩,.bool false],.bool false]) w:=hlk;have hfin:∀w',Ext w w'->b2U F a D (a5b D ids (Z5 bss ids.length) key) w (.returned (.tuple #[.string ⟨#[]⟩,.bool false,.nilIface])) w':=fun w' hE=>by
   rw[hg];exact⟨.nilIface,rfl,(Held.true w' F).mono fun _ _=>rfl,H.out.ext hE,Chg.ext hE⟩
  have HF:=Lib.hid hfin;clear hlk hg hfin hlook;unfold y8 strV at *;go_enter Tryz.func22,Tryz.ntmps22
  go_wp2_with fail
  go_ret3
  exact HF.out _ ((Ext.refl w).new _)
 | some f=>
  rw[hlook] at hlk;obtain⟨hfn,hfm,hfk⟩:=b5W hlook;have hlk1:(Instr.lookup 136 (.map (some r)) (.string ⟨key.toArray⟩) true).run Tryz.prog w=.ok (.tuple #[.agg #[.int .i64 f.1,.int .i64 f.2.1,.int .i64 f.2.2.size,.int .u64 f.2.2.seq,.string ⟨f.2.2.key.toArray⟩,.string ⟨f.2.2.val.toArray⟩,.bool f.2.2.del],.bool true]) w:=hlk;obtain⟨w1,hw1⟩:∃w1,w.alloc (.cells #[.int .i64 f.1,.int .i64 f.2.1,.int .i64 f.2.2.size,.int .u64 f.2.2.seq,.string ⟨f.2.2.key.toArray⟩,.string ⟨f.2.2.val.toArray⟩,.bool f.2.2.del] 160)=w1:=⟨_,rfl⟩;have hE1:Ext w w1:=hw1▸(Ext.refl w).new _;have hx:o7 w1 w.heap.size 160 #[.int .i64 f.1,.int .i64 f.2.1,.int .i64 f.2.2.size,.int .u64 f.2.2.seq,.string ⟨f.2.2.key.toArray⟩,.string ⟨f.2.2.val.toArray⟩,.bool f.2.2.del]:=hw1▸o7.new _ _ rfl;have x0:=(hx.cell 0).trans (show _=some (Value.int .i64 f.1) from rfl);have x1:=(hx.cell 1).trans (show _=some (Value.int .i64 f.2.1) from rfl);have x2:=(hx.cell 2).trans (show _=some (Value.int .i64 f.2.2.size) from rfl);have x3:=(hx.cell 3).trans (show _=some (Value.int .u64 f.2.2.seq) from rfl);have x4:=(hx.cell 4).trans (show _=some (Value.string ⟨f.2.2.key.toArray⟩) from rfl);have x5:=(hx.cell 5).trans (show _=some (Value.string ⟨f.2.2.val.toArray⟩) from rfl);have x6:=(hx.cell 6).trans (show _=some (Value.bool f.2.2.del) from rfl);have HX:=Lib.hid hx;have HE1:=Lib.hid hE1;have HW1:=Lib.hid hw1;have HFN:=Lib.hid hfn;have HFM:=Lib.hid hfm;have HLK:=Lib.hid hlook;clear hlk hx hE1 hw1 hfn hfm hfk hlook
  cases hdel:f.2.2.del with
  | true=>
   rw[hdel] at x6 hlk1 HW1;have hg:a5b D ids (Z5 bss ids.length) key=([],false,.ok):=by unfold a5b;rw[HLK.out];dsimp only;rw[if_pos hdel]
   have hfin:∀w',Ext w w'->b2U F a D (a5b D ids (Z5 bss ids.length) key) w (.returned (.tuple #[.string ⟨#[]⟩,.bool false,.nilIface])) w':=fun w' hE=>by
    rw[hg];exact⟨.nilIface,rfl,(Held.true w' F).mono fun _ _=>rfl,H.out.ext hE,Chg.ext hE⟩
   have HF:=Lib.hid hfin;clear hg hfin hdel;unfold y8 strV at *;go_enter Tryz.func22,Tryz.ntmps22
   go_wp2_with fail
   go_ret3
   exact HF.out _ (by rw[HW1.out];exact HE1.out)
  | false=>
   rw[hdel] at x6 hlk1 HW1;obtain⟨s0,-⟩:=HS.out f.1 HFN.out;have hil:=HIDS.out.1;have hid:=HIDS.out.2 (ids.getD f.1 0) (by rw[List.getD_eq_getElem?_getD,List.getElem?_eq_getElem HFN.out];exact List.getElem_mem _);obtain⟨id,hidn⟩:∃id:Nat,ids.getD f.1 0=(id:Int):=⟨(ids.getD f.1 0).toNat,by omega⟩;rw[hidn] at s0 hid;have s01:=HE1.out.cell s0;rw[Nat.mul_comm] at s01;have d01:=HE1.out.cell d0;have d31:=HE1.out.cell d3;have hg:a5b D ids (Z5 bss ids.length) key=a4L D (D7 G8 id) f:=by unfold a5b;rw[HLK.out];dsimp only;rw[if_neg (by rw[hdel];decide),hidn];rfl
   obtain⟨n,hn⟩:∃n,ids.length=n:=⟨_,rfl⟩;have hfi:(f.1:Int)<(n:Int):=by have:=HFN.out;omega
   rw[hn] at d31 hil;have HG:=Lib.hid hg;have HN:=Lib.hid hn;have HID:=Lib.hid hid;have HDL:=Lib.hid hdel;clear hg hn hidn s0 hdel;unfold y8 strV at *;go_enter Tryz.func22,Tryz.ntmps22
   go_upto_region 4 with fail
   rw[HW1.out];go_cut [9] (fun v wx=>v=.string ⟨(D7 G8 id).toArray⟩/\Ext w1 wx)
   case first=>
    have hEd:Ext w1 w1.drew:=Below.drew (Ext.refl w1);have hPd:a0F w1.drew:=(HPL.out.ext (HE1.out.trans hEd):Held w1.drew F a0F).get;have y0:=hEd.cell x0;have y1:=hEd.cell d31;have y2:=hEd.cell s01;have hkn:=a6x G8 id w1.drew (by decide) (by omega) hPd;have HED:=Lib.hid hEd;have HKN:=Lib.hid hkn;clear hEd hkn;unfold strV at HKN;unfold G8 at HKN;go_region_with (go_at_call 56;refine HKN.out.mono ?_;rintro e wq ⟨rfl,hE⟩)
    all_goals
     go_wp2_with fail
     go_meet
     exact⟨rfl,HED.out.trans hE⟩
   case rest=>
    obtain⟨rfl,hEc⟩:=hcut;obtain⟨wo,hwo⟩:∃wo,wo=wc:=⟨_,rfl⟩;rw[<-hwo] at hEc⊢;clear hwo wc;have hE0c:=HE1.out.trans hEc;have c0:=hEc.cell x0;have c1:=hEc.cell x1;have c2:=hEc.cell x2;have c3:=hEc.cell x3;have c4:=hEc.cell x4;have c5:=hEc.cell x5;have c6:=hEc.cell x6;have cd:=hEc.cell d01;have hin:=b9B HFM.out;have hb1:=HB1.out f.1;have hnl:(D7 G8 id).length<=maxLen:=by
     have:(D7 G8 id).length=11:=by simp[D7,G8]
     rw[this];decide
    have hHc:=H.out.ext hE0c;obtain⟨nm,hnm⟩:∃nm,D7 G8 id=nm:=⟨_,rfl⟩;rw[hnm] at hnl⊢;obtain⟨hca1,hca2⟩:=b2O HC.out nm (f.2.1:Int) (f.2.2.size:Int);have hgt:a5b D ids (Z5 bss ids.length) key=a4L D nm f:=by rw[<-hnm];exact HG.out
    have HGT:=Lib.hid hgt;have HE0C:=Lib.hid hE0c;have HHC:=Lib.hid hHc;have HCA1:=Lib.hid hca1;have HCA2:=Lib.hid hca2;clear hEc hE0c hHc x0 x1 x2 x3 x4 x5 x6 d0 d01 d3 d31 d4 s01 hgt HG hca1 hca2 hlk1 hnm HX HW1 HE1;go_upto_region 5 with fail
    go_cut [10,11] (fun u v wx=>a8D F a (D.readAt nm f.2.1 f.2.2.size) wo (.returned (.tuple #[u,v])) wx)
    case first=>
     have hEd:Ext wo wo.drew:=Below.drew (Ext.refl wo);have y1:=hEd.cell c1;have y2:=hEd.cell c2;have yd:=hEd.cell cd;have hra:=a4Y F a D nm f.2.1 f.2.2.size wo.drew (HHC.out.ext hEd) hnl (by omega) (by omega) (fun x hx=>by have:=HFIT.out.data x hx;omega);have HRA:=Lib.hid hra;have HED:=Lib.hid hEd;clear hra hEd;unfold y8 strV at HRA;go_region_with (go_at_call 68;refine HRA.out.mono ?_;rintro e wq ⟨u,v,rfl,q1,q2,q3,q4,q5⟩)
     all_goals
      go_wp2_with fail
      go_meet
      exact⟨u,v,rfl,J8 q1 HED.out.size,q2,q3,(Chg.ext HED.out).trans q4,q5⟩
    case rest=>
     obtain⟨u',v',eq,hu,hv,hD2,hC2,hfl⟩:=hcut;injection eq with eq;injection eq with eq;have eu:=congrArg (fun A:Array Value=>A[0]?) eq;have ev:=congrArg (fun A:Array Value=>A[1]?) eq;simp at eu ev;subst eu;subst ev;clear eq;have hb:=OwnB.bytes hu;have hnew:∀b,w.heap.size<=b->¬F b:=fun b hb hF=>by have:=HFL.out b hF;omega
     have keepc:∀i v,wo.cell? ⟨w.heap.size,i,none⟩=some v->wc.cell? ⟨w.heap.size,i,none⟩=some v:=fun i v h=>(World.cell?_of_block (hC2.block _ (cell_lt h) (hnew _ (Nat.le_refl _)))).trans h;have z3:=keepc _ _ c3;have z4:=keepc _ _ c4;have z5:=keepc _ _ c5;have z6:=keepc _ _ c6;clear keepc c0 c1 c2 c3 c4 c5 c6 cd;have hC0:Chg F F w wc:=(Chg.ext HE0C.out).trans hC2;obtain⟨⟨lr,er,d2⟩,hrd⟩:∃x,D.readAt nm f.2.1 f.2.2.size=x:=⟨_,rfl⟩;have hca1:=HCA1.out;have hca2:=HCA2.out;rw[hrd] at hca1 hca2 hu hv hb hD2;dsimp only at hca1 hca2 hu hv hb hD2;subst hca1;have hbad:∀w' k,k=w'.heap.size->Ext wc w'->(dec lr=none\/er≠.ok\/∃r,dec lr=some r/\a8J r f.2.2=false)->b2U F a d2 (a5b d2 ids (Z5 bss ids.length) key) w (.returned (.tuple #[.string ⟨#[]⟩,.bool false,.iface 132 (.pointer (some ⟨k,0,none⟩))])) (w'.alloc (.cells #[strV nm,.int .i64 3] 134)):=fun w' k hk hE hcs=>by
      subst hk;have hg:a4L d2 nm f=([],false,.file 3 nm):=by
       unfold a4L;rw[hrd];dsimp only;rcases hcs with h|h|⟨r,h,h2⟩
       ·rw[h]
       ·split
        ·rfl
        ·rw[if_neg fun hh=>h hh.1]
       ·rw[h];dsimp only;rw[if_neg fun hh=>by rw[h2] at hh;cases hh.2]
      rw[HGT.out,hg];have hEn:=hE.new (.cells #[strV nm,.int .i64 3] 134);exact⟨_,rfl,a02 fun b hb=>by have:=HFL.out b hb;have:=hC0.size;have:=hE.size;omega,hD2.ext hEn,hC0.trans (Chg.ext hEn)⟩
     have HBAD:=Lib.hid hbad;have HRD:=Lib.hid hrd;have HC0:=Lib.hid hC0;have HD2:=Lib.hid hD2;have hdec:=decode_any u10 lr wc hb;have HDEC:=Lib.hid hdec;clear hbad hrd hC0 hdec hb hC2 hfl hu HE0C HHC HCA1 HCA2;unfold strV at HBAD;rcases hca2 with rfl|⟨rfl,rfl⟩
     ·obtain rfl:u11=.nilIface:=hv.get;clear hv hD2;go_wp2_with fail
      refine HDEC.out.mono ?_;rintro e w3 ⟨rfl,hE3⟩
      cases hd:dec lr with
      | none=>
       have HD:=Lib.hid hd;have HE3:=Lib.hid hE3;clear hd hE3;unfold a1w a0l X6;go_wp2_with fail
       go_ret3
       exact HBAD.out _ _ (by simp) (HE3.out.new _) (.inl HD.out)
      | some r=>
       have hne:=fun wx=>c5T r f.2.2 wx;rw[HDL.out] at hne;have hEn:=hE3.new (.cells #[.int .u64 r.seq,.string ⟨r.key.toArray⟩,.string ⟨r.val.toArray⟩,.bool r.del] 111);have y3:=hEn.cell z3;have y4:=hEn.cell z4;have y5:=hEn.cell z5;have y6:=hEn.cell z6;clear hEn;have HD:=Lib.hid hd;have HE3:=Lib.hid hE3;clear hd hE3 z3 z4 z5 z6;unfold a1w
       cases hs:a8J r f.2.2 with
       | false=>
        rw[hs] at hne;have HSM:=Lib.hid hs;clear hs;go_wp2_with fail
        go_ret3
        exact HBAD.out _ _ (by simp) (HE3.out.new _) (.inr (.inr ⟨r,HD.out,HSM.out⟩))
       | true=>
        rw[hs] at hne;have hgood:∀w',Ext wc w'->b2U F a d2 (a5b d2 ids (Z5 bss ids.length) key) w (.returned (.tuple #[.string ⟨r.val.toArray⟩,.bool true,.nilIface])) w':=fun w' hE=>by
         have hg:a4L d2 nm f=(r.val,true,.ok):=by
          unfold a4L;rw[HRD.out];dsimp only;rw[HD.out];dsimp only;rw[if_pos ⟨rfl,hs⟩]
         rw[HGT.out,hg];exact⟨.nilIface,rfl,(Held.true w' F).mono fun _ _=>rfl,HD2.out.ext hE,HC0.out.trans (Chg.ext hE)⟩
        have HGD:=Lib.hid hgood;clear hgood hs;go_wp2_with fail
        go_ret3
        exact HGD.out _ (HE3.out.new _)
     ·obtain⟨eb,hu11,heb⟩:=hv.get;have his:=b4i (.file 11 nm) u11 11 wc hv.get (by decide);subst hu11;have HIS:=Lib.hid his;clear his hv heb hD2;unfold X6 at HIS;go_wp2_with fail
      refine HIS.out.mono ?_;rintro e w2 ⟨rfl,rfl⟩;go_wp2_with fail
      refine HDEC.out.mono ?_;rintro e w3 ⟨rfl,hE3⟩;have hd:dec []=none:=by
       cases h:dec [] with
       | none=>rfl
       | some r=>have:=a2S h;simp at this;omega
      rw[hd];have HE3:=Lib.hid hE3;have HD:=Lib.hid hd;clear hE3 hd;unfold a1w a0l X6;go_wp2_with fail
      go_ret3
      exact HBAD.out _ _ (by simp) (HE3.out.new _) (.inl HD.out)
end
section
open Go.RowKit Go.Lib Go.Maps Dk Pl
end
section
open Go.RowKit Go.Lib Go.Maps Dk Pl
theorem b9t{T:Array Value}{k:Nat}{v:Value}(h:T[k]?=some v):T.getD k undef=v:=by
 rw[Array.getD_eq_getD_getElem?,h];rfl
section
variable{F:Nat->Prop}{a:Nat}{D:Dk.D}{w:World}{T:Array Value}
end
end
section
open Go.RowKit Go.Lib Go.Maps Dk Pl
theorem b6X{T:Array Value}{x:Nat->Value}(hx:∀k,k<154->T[k]?=some (x k)){k:Nat}{v:Value}(hk:k<154)(h:T[k]?=some v):x k=v:=Option.some.inj ((hx k hk).symm.trans h)
theorem c4q(T:Array Value)(b:Bool)(ba:Option Addr)(n bc:Nat)(w:World)(hT:T.size=154)(h5:T[5]?=some (.bool b))(h1:T[1]?=some (.slice ba n bc)):(U0 2).wp Tryz.prog (QG2 T b n w) ⟨T,[]⟩ w:=by
 obtain⟨x,e,hx⟩:=b1h T hT;have e1:=b6X hx (by decide) h1;have e5:=b6X hx (by decide) h5;have fin:∀(A:Array Value)(y:Nat->Value),A=b1g (fun k=>if ch2 k=true then y k else up (up x 1 (.slice ba n bc)) 5 (.bool b) k)->Kp ch2 T A:=by
  intro A y h;rw[h];refine⟨by rw[hT];rfl,fun k hk=>?_⟩;rcases Nat.lt_or_ge k 154 with hl|hl
  ·rw[c1S b2r _ hl,if_neg (by rw[hk];decide),a5t e1,a5t e5,hx k hl]
  ·rw[Array.getElem?_eq_none (by show 154<=k;omega),Array.getElem?_eq_none (by omega)]
 have FIN:=Lib.hid fin;refine(congrArg (fun T'=>Code.wp _ _ _ ⟨T',[]⟩ _) (X5 (k:=5) (X5 (k:=1) e e1) ((congrFun (a5t e1) 5).trans e5))).mpr ?_;clear fin e hx hT h1 h5 e1 e5;unfold U0 U6;simp only[Code.behind,Code.head,Tryz.f3,Option.getD_some,b1g,up,reduceIte,Nat.reduceEqDiff]
 cases b with
 | true=>
  by_cases hn:n<=300
  ·have hg:¬(300:Int)<(n:Int):=by omega
   go_wp2_with fail
   exact⟨rfl,hn,rfl,FIN.out _ (fun k=>if k=27 then .bool true else if k=28 then .bool false else if k=29 then .bool false else if k=30 then .slice ba n bc else if k=31 then .int .i64 n else .bool false) rfl,rfl⟩
  ·have hg:(300:Int)<(n:Int):=by omega
   go_wp2_with fail
   exact⟨rfl,rfl,rfl⟩
 | false=>
  go_wp2_with fail
  exact⟨rfl,rfl,rfl⟩
def GG8(T:Array Value)(w:World):Exit->Act->World->Prop
 | .normal,a',w'=>a'.defers=[]/\a'.tmps.size=154/\(∀k,k=1\/k=6\/k=7\/k=9\/k=12->a'.tmps[k]?=T[k]?)/\w'=w
 | _,_,_=>False
def GB8(w:World):Exit->Act->World->Prop
 | .ret,a',w'=>a'.defers=[]/\a'.tmps[4]?=some (.bool true)/\w'=w
 | _,_,_=>False
theorem b6Y(T:Array Value)(hT:T.size=154)(h13:T[13]?=some (.int .i64 0))(w:World):(U0 8).wp Tryz.prog (GG8 T w) ⟨T,[]⟩ w:=by
 obtain⟨x,e,hx⟩:=b1h T hT;refine(congrArg (fun T'=>Code.wp _ _ _ ⟨T',[]⟩ _) (X5 (k:=13) e (b6X hx (by decide) h13))).mpr ?_;have HX:=Lib.hid hx;clear e hx hT h13;unfold U0 U6;simp only[Code.behind,Code.head,Tryz.f3,Option.getD_some,b1g,up,reduceIte,Nat.reduceEqDiff];go_wp2_with fail
 exact⟨rfl,rfl,fun k hk=>by rcases hk with rfl|rfl|rfl|rfl|rfl<;>exact(HX.out _ (by decide)).symm,rfl⟩
theorem b4e(T:Array Value)(cd:Int)(hT:T.size=154)(h9:T[9]?=some (.int .i64 cd))(h13:T[13]?=some (.int .i64 cd))(w:World)(hne:cd≠0):(U0 8).wp Tryz.prog (GB8 w) ⟨T,[]⟩ w:=by
 rw[X5 (k:=13) (X5 (k:=9) (b3V T hT) (L6 h9)) (L6 h13)];generalize (fun k=>T.getD k undef)=x;clear hT h9 h13;unfold U0 U6;simp only[Code.behind,Code.head,Tryz.f3,Option.getD_some,b1g,up,reduceIte,Nat.reduceEqDiff];go_wp2_with fail
 refine(c2J cd w).mono ?_;rintro e w1 ⟨rfl,rfl⟩;go_wp2_with fail
 exact⟨rfl,rfl,rfl⟩
def GG9(T:Array Value)(sb:Nat)(w:World):Exit->Act->World->Prop
 | .normal,a',w'=>a'.defers=[]/\a'.tmps.size=154/\a'.tmps[7]?=some (y8 sb)/\(∀k,k=1\/k=6\/k=12->a'.tmps[k]?=T[k]?)/\w'=w
 | _,_,_=>False
theorem b6Z(T:Array Value)(sb:Nat)(hT:T.size=154)(h7:T[7]?=some (.pointer (some ⟨sb,0,none⟩)))(h9:T[9]?=some (.int .i64 0))(w:World):(U0 9).wp Tryz.prog (GG9 T sb w) ⟨T,[]⟩ w:=by
 obtain⟨x,e,hx⟩:=b1h T hT;refine(congrArg (fun T'=>Code.wp _ _ _ ⟨T',[]⟩ _) (X5 (k:=9) (X5 (k:=7) e (b6X hx (by decide) h7)) ((congrFun (a5t (b6X hx (by decide) h7)) 9).trans (b6X hx (by decide) h9)))).mpr ?_;have HX:=Lib.hid hx;clear e hx hT h7 h9;unfold U0 U6;simp only[Code.behind,Code.head,Tryz.f3,Option.getD_some,b1g,up,reduceIte,Nat.reduceEqDiff];go_wp2_with fail
 exact⟨rfl,rfl,rfl,fun k hk=>by rcases hk with rfl|rfl|rfl<;>exact(HX.out _ (by decide)).symm,rfl⟩
end
section
open Go.RowKit Go.Lib Go.Maps Dk Pl
theorem c2p{l:List UInt8}{r:Rec}(h:dec l=some r):r.key.length<=16:=by
 unfold dec at h;split at h
 ·rename_i hg;injection h with h;subst h;unfold good at hg;simp at hg;show((l.drop 16).take (D8 l)).length<=16;rw[List.length_take];omega
 ·cases h
def c5M(F:Nat->Prop)(w:World):Exit->Act->World->Prop
 | .ret,a',w'=>a'.defers=[]/\a'.tmps[4]?=some (.bool true)/\Chg F F w w'
 | _,_,_=>False
theorem c2r(T:Array Value)(hT:T.size=154){F:Nat->Prop}{a sb gen B uc:Nat}{E:Dk.D}{ids:List Int}{bss:List (List UInt8)}{ua:Option Addr}{L:List (Nm×Nm)}(h7:T[7]?=some (y8 sb))(h15:T[15]?=some (.slice ua L.length uc))(w:World)(hD:y9 w F a E)(hc:E.Calm)(hfit:E.Fit)(hst:Held w F (fun W=>a8j W sb a gen ids bss))(hids:a4j ids)
 (hb1:∀i,(bss.getD i []).length<=1099511627776)(hbl:bss.length=ids.length)(hP:Held w F a0F)(hL:Held w F Laid)(hLn:L=a6S (J7 bss))(hrow:Held w F (fun W=>W.ownsRow B 60 2 (.slice ua L.length uc) L.length (L.flatMap I9))):
 (U6 12).wp Tryz.prog (c5M F w) ⟨T,[]⟩ w:=by
 rw[X5 (k:=15) (X5 (k:=7) (b3V T hT) (L6 h7)) (L6 h15)];generalize (fun k=>T.getD k undef)=x;clear hT h7 h15;have hall:∀P∈L,P.1.length<=maxLen/\∃nm:Nm,nm.length=11/\(a5b E ids (Z5 bss ids.length) P.1=([],false,.file 3 nm)\/a5b E ids (Z5 bss ids.length) P.1=(P.2,true,.ok)):=by
  intro P hP;subst hLn;obtain⟨f,hf1,hf2,hf3⟩:=b9L hbl P hP;obtain⟨hfn,hfm,hfk⟩:=b5W hf1;refine⟨?_,D7 G8 (ids.getD f.1 0).toNat,by simp[D7,G8],?_⟩
  ·have:=c2p (b0B hfm);rw[hfk] at this;unfold maxLen;omega
  ·unfold a5b;rw[hf1];dsimp only;rw[if_neg (by rw[hf2];decide),<-hf3];exact b9C _ _ _
 obtain⟨n,hn⟩:∃n,L.length=n:=⟨_,rfl⟩;have hn2:n<=9223372036854775807:=by
  have:=(hrow.get).2;rcases this with⟨_,h⟩|⟨g,cap,cur,hv,_,_,h1,h2,_⟩
  ·omega
  ·unfold maxLen at h2;omega
 rw[hn] at hrow;rw[hn];have HD:=Lib.hid hD;have HC:=Lib.hid hc;have HFT:=Lib.hid hfit;have HST:=Lib.hid hst;have HIDS:=Lib.hid hids;have HB1:=Lib.hid hb1;have HP:=Lib.hid hP;have HL:=Lib.hid hL;have HROW:=Lib.hid hrow;have HALL:=Lib.hid hall;have HN:=Lib.hid hn;clear hD hc hfit hst hids hb1 hP hL hrow hall hn hLn hbl;unfold U6 y8;simp only[Code.behind,Tryz.f3,Option.getD_some,b1g,up,reduceIte,Nat.reduceEqDiff];go_wp2_with fail
 go_loopw [19] (fun i wr=>∃k:Nat,i=.int .i64 k/\k<=n/\y9 wr F a E/\Chg F F w wr) (fun i _=>n - (intOf i).toNat)
 case atStart=>exact⟨0,rfl,by omega,HD.out,Chg.refl F w⟩
 case round=>
  obtain⟨k,rfl,hk,hDr,hCr⟩:=hrel;by_cases hlt:k<n
  ·obtain⟨P,hp⟩:∃P,L[k]?=some P:=⟨_,List.getElem?_eq_getElem (by rw[HN.out];exact hlt)⟩;obtain⟨hkl,nm,hnm,hcs⟩:=HALL.out P (List.mem_of_getElem? hp);have hrow:=(HROW.out.step hCr).get;rw[<-HN.out] at hrow;obtain⟨g,cap,e1,l1,-,-,q⟩:=b1C a2K hrow hp;rw[HN.out] at e1 l1;injection e1 with e1 _ e3;subst e1;subst e3;have x0:=q 0 _ rfl;have x1:=q 1 _ rfl;rw[Nat.add_zero] at x0;have hki:(k:Int)<(n:Int):=by omega
   have hget:=b9S F a sb gen E ids bss P.1 wr hDr HC.out HFT.out (HST.out.step hCr) HIDS.out hkl (HP.out.step hCr) HB1.out;have HG:=Lib.hid hget;have HCR:=Lib.hid hCr;have HPK:=Lib.hid hp;clear hrow q hp hget hDr hCr hkl;rcases hcs with hcs|hcs
   ·have hg:=HG.out;rw[hcs] at hg;have HG2:=Lib.hid hg;clear hg HG hcs;unfold y8 strV at HG2;go_wp2_with fail
    refine HG2.out.mono ?_;rintro e w2 ⟨ev,rfl,hE2,hD2,hC2⟩;have hL2:Laid w2:=(HL.out.step (HCR.out.trans hC2)).get;have htl:=a5C (.file 3 nm) ev w2 hE2.get hL2;have e3:(Er.file 3 nm).code=3:=rfl;have e4:(Er.file 3 nm).name=nm:=rfl;rw[e3,e4] at htl;have HTL:=Lib.hid htl;have HD2:=Lib.hid hD2;have HC2:=Lib.hid hC2;clear htl hE2 hD2 hC2 hL2 e3 e4 HG2;unfold strV at HTL;unfold strV;go_wp2_with fail
    refine HTL.out.mono ?_;rintro e w3 ⟨rfl,hE3⟩
    have hne:nm.isEmpty=false:=by cases nm with
     | nil=>cases hnm
     | cons _ _=>rfl
    have hne2:¬nm=[]:=by rintro rfl;cases hnm
    have HE3:=Lib.hid hE3;clear hE3 HTL;go_wp2_with fail
    go_roundw
    case rel=>exact⟨k+1,by go_num,by omega,HD2.out.ext HE3.out,HCR.out.trans (HC2.out.trans (Chg.ext HE3.out))⟩
    case measure=>simp[intOf];omega
   ·have hg:=HG.out;rw[hcs] at hg;have HG2:=Lib.hid hg;clear hg HG hcs;unfold y8 strV at HG2;go_wp2_with fail
    refine HG2.out.mono ?_;rintro e w2 ⟨ev,rfl,hE2,hD2,hC2⟩;have hL2:Laid w2:=(HL.out.step (HCR.out.trans hC2)).get;have htl:=a5C .ok ev w2 hE2.get hL2;have e3:(Er.ok).code=0:=rfl;have e4:(Er.ok).name=[]:=rfl;rw[e3,e4] at htl;have x1':w2.cell? ⟨g,k*2+1,none⟩=some (.string ⟨P.2.toArray⟩):=by
     have hrow2:=(HROW.out.step (HCR.out.trans hC2)).get;rw[<-HN.out] at hrow2;obtain⟨g2,cap2,e2,-,-,-,q2⟩:=b1C a2K hrow2 HPK.out;injection e2 with e2;injection e2 with e2;injection e2 with e2;rw[e2];exact q2 1 _ rfl
    have HTL:=Lib.hid htl;have HD2:=Lib.hid hD2;have HC2:=Lib.hid hC2;clear htl hE2 hD2 hC2 hL2 e3 e4 HG2;unfold strV at HTL;unfold strV;go_wp2_with fail
    refine HTL.out.mono ?_;rintro e w3 ⟨rfl,hE3⟩;have x13:=hE3.cell x1';have HE3:=Lib.hid hE3;clear hE3 HTL;go_wp2_with fail
    go_roundw
    case rel=>exact⟨k+1,by go_num,by omega,HD2.out.ext HE3.out,HCR.out.trans (HC2.out.trans (Chg.ext HE3.out))⟩
    case measure=>simp[intOf];omega
  ·obtain rfl:k=n:=by omega
   have HCR:=Lib.hid hCr;clear hCr hDr;go_wp2_with fail
   exact⟨rfl,rfl,HCR.out⟩
end
end Go.Proofs.YtgpbhjjajpbeeaaGreatDoor
