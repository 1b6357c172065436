/- A part of what the last file proves. -/
import Derived.Test.YtgpbhjjajpbeeaaGreatDoorK31
set_option linter.all false
set_option maxRecDepth 100000
set_option maxHeartbeats 3200000
namespace Go.Proofs.YtgpbhjjajpbeeaaGreatDoor
section
open Go.RowKit Go.Lib Go.Maps Dk Pl
theorem b0M(T:Array Value)(hT:T.size=150):T=#[T.getD 0 undef,T.getD 1 undef,T.getD 2 undef,T.getD 3 undef,T.getD 4 undef,T.getD 5 undef,T.getD 6 undef,T.getD 7 undef,T.getD 8 undef,T.getD 9 undef,T.getD 10 undef,T.getD 11 undef,T.getD 12 undef,T.getD 13 undef,T.getD 14 undef,T.getD 15 undef,T.getD 16 undef,T.getD 17 undef,T.getD 18 undef,T.getD 19 undef,T.getD 20 undef,T.getD 21 undef,T.getD 22 undef,T.getD 23 undef,T.getD 24 undef,T.getD 25 undef,T.getD 26 undef,T.getD 27 undef,T.getD 28 undef,T.getD 29 undef,T.getD 30 undef,T.getD 31 undef,T.getD 32 undef,T.getD 33 undef,T.getD 34 undef,T.getD 35 undef,T.getD 36 undef,T.getD 37 undef,T.getD 38 undef,T.getD 39 undef,T.getD 40 undef,T.getD 41 undef,T.getD 42 undef,T.getD 43 undef,T.getD 44 undef,T.getD 45 undef,T.getD 46 undef,T.getD 47 undef,T.getD 48 undef,T.getD 49 undef,T.getD 50 undef,T.getD 51 undef,T.getD 52 undef,T.getD 53 undef,T.getD 54 undef,T.getD 55 undef,T.getD 56 undef,T.getD 57 undef,T.getD 58 undef,T.getD 59 undef,T.getD 60 undef,T.getD 61 undef,T.getD 62 undef,T.getD 63 undef,T.getD 64 undef,T.getD 65 undef,T.getD 66 undef,T.getD 67 undef,T.getD 68 undef,T.getD 69 undef,T.getD 70 undef,T.getD 71 undef,T.getD 72 undef,T.getD 73 undef,T.getD 74 undef,T.getD 75 undef,T.getD 76 undef,T.getD 77 undef,T.getD 78 undef,T.getD 79 undef,T.getD 80 undef,T.getD 81 undef,T.getD 82 undef,T.getD 83 undef,T.getD 84 undef,T.getD 85 undef,T.getD 86 undef,T.getD 87 undef,T.getD 88 undef,T.getD 89 undef,T.getD 90 undef,T.getD 91 undef,T.getD 92 undef,T.getD 93 undef,T.getD 94 undef,T.getD 95 undef,T.getD 96 undef,T.getD 97 undef,T.getD 98 undef,T.getD 99 undef,T.getD 100 undef,T.getD 101 undef,T.getD 102 undef,T.getD 103 undef,T.getD 104 undef,T.getD 105 undef,T.getD 106 undef,T.getD 107 undef,T.getD 108 undef,T.getD 109 undef,T.getD 110 undef,T.getD 111 undef,T.getD 112 undef,T.getD 113 undef,T.getD 114 undef,T.getD 115 undef,T.getD 116 undef,T.getD 117 undef,T.getD 118 undef,T.getD 119 undef,T.getD 120 undef,T.getD 121 undef,T.getD 122 undef,T.getD 123 undef,T.getD 124 undef,T.getD 125 undef,T.getD 126 undef,T.getD 127 undef,T.getD 128 undef,T.getD 129 undef,T.getD 130 undef,T.getD 131 undef,T.getD 132 undef,T.getD 133 undef,T.getD 134 undef,T.getD 135 undef,T.getD 136 undef,T.getD 137 undef,T.getD 138 undef,T.getD 139 undef,T.getD 140 undef,T.getD 141 undef,T.getD 142 undef,T.getD 143 undef,T.getD 144 undef,T.getD 145 undef,T.getD 146 undef,T.getD 147 undef,T.getD 148 undef,T.getD 149 undef]:=by
 apply Array.ext
 ·exact hT
 intro j h1 h2;have hg:∀k(h:k<T.size),T[k]=T.getD k undef:=fun k h=>by simp[Array.getD,h]
 rw[hg];have h3:j<150:=by omega
 match j,h3 with
 | 0,_=>rfl
 | 1,_=>rfl
 | 2,_=>rfl
 | 3,_=>rfl
 | 4,_=>rfl
 | 5,_=>rfl
 | 6,_=>rfl
 | 7,_=>rfl
 | 8,_=>rfl
 | 9,_=>rfl
 | 10,_=>rfl
 | 11,_=>rfl
 | 12,_=>rfl
 | 13,_=>rfl
 | 14,_=>rfl
 | 15,_=>rfl
 | 16,_=>rfl
 | 17,_=>rfl
 | 18,_=>rfl
 | 19,_=>rfl
 | 20,_=>rfl
 | 21,_=>rfl
 | 22,_=>rfl
 | 23,_=>rfl
 | 24,_=>rfl
 | 25,_=>rfl
 | 26,_=>rfl
 | 27,_=>rfl
 | 28,_=>rfl
 | 29,_=>rfl
 | 30,_=>rfl
 | 31,_=>rfl
 | 32,_=>rfl
 | 33,_=>rfl
 | 34,_=>rfl
 | 35,_=>rfl
 | 36,_=>rfl
 | 37,_=>rfl
 | 38,_=>rfl
 | 39,_=>rfl
 | 40,_=>rfl
 | 41,_=>rfl
 | 42,_=>rfl
 | 43,_=>rfl
 | 44,_=>rfl
 | 45,_=>rfl
 | 46,_=>rfl
 | 47,_=>rfl
 | 48,_=>rfl
 | 49,_=>rfl
 | 50,_=>rfl
 | 51,_=>rfl
 | 52,_=>rfl
 | 53,_=>rfl
 | 54,_=>rfl
 | 55,_=>rfl
 | 56,_=>rfl
 | 57,_=>rfl
 | 58,_=>rfl
 | 59,_=>rfl
 | 60,_=>rfl
 | 61,_=>rfl
 | 62,_=>rfl
 | 63,_=>rfl
 | 64,_=>rfl
 | 65,_=>rfl
 | 66,_=>rfl
 | 67,_=>rfl
 | 68,_=>rfl
 | 69,_=>rfl
 | 70,_=>rfl
 | 71,_=>rfl
 | 72,_=>rfl
 | 73,_=>rfl
 | 74,_=>rfl
 | 75,_=>rfl
 | 76,_=>rfl
 | 77,_=>rfl
 | 78,_=>rfl
 | 79,_=>rfl
 | 80,_=>rfl
 | 81,_=>rfl
 | 82,_=>rfl
 | 83,_=>rfl
 | 84,_=>rfl
 | 85,_=>rfl
 | 86,_=>rfl
 | 87,_=>rfl
 | 88,_=>rfl
 | 89,_=>rfl
 | 90,_=>rfl
 | 91,_=>rfl
 | 92,_=>rfl
 | 93,_=>rfl
 | 94,_=>rfl
 | 95,_=>rfl
 | 96,_=>rfl
 | 97,_=>rfl
 | 98,_=>rfl
 | 99,_=>rfl
 | 100,_=>rfl
 | 101,_=>rfl
 | 102,_=>rfl
 | 103,_=>rfl
 | 104,_=>rfl
 | 105,_=>rfl
 | 106,_=>rfl
 | 107,_=>rfl
 | 108,_=>rfl
 | 109,_=>rfl
 | 110,_=>rfl
 | 111,_=>rfl
 | 112,_=>rfl
 | 113,_=>rfl
 | 114,_=>rfl
 | 115,_=>rfl
 | 116,_=>rfl
 | 117,_=>rfl
 | 118,_=>rfl
 | 119,_=>rfl
 | 120,_=>rfl
 | 121,_=>rfl
 | 122,_=>rfl
 | 123,_=>rfl
 | 124,_=>rfl
 | 125,_=>rfl
 | 126,_=>rfl
 | 127,_=>rfl
 | 128,_=>rfl
 | 129,_=>rfl
 | 130,_=>rfl
 | 131,_=>rfl
 | 132,_=>rfl
 | 133,_=>rfl
 | 134,_=>rfl
 | 135,_=>rfl
 | 136,_=>rfl
 | 137,_=>rfl
 | 138,_=>rfl
 | 139,_=>rfl
 | 140,_=>rfl
 | 141,_=>rfl
 | 142,_=>rfl
 | 143,_=>rfl
 | 144,_=>rfl
 | 145,_=>rfl
 | 146,_=>rfl
 | 147,_=>rfl
 | 148,_=>rfl
 | 149,_=>rfl
 | k+150,h=>exact absurd h (by omega)
def c4o(x:Nat->Value)(w:World):Exit->Act->World->Prop
 | .normal,a',w'=>a'.defers=[]/\a'.tmps.size=150/\a'.tmps[1]?=some (x 1)/\a'.tmps[2]?=some (x 2)/\a'.tmps[9]?=some (x 9)/\a'.tmps[14]?=some (x 14)/\w'=w
 | _,_,_=>False
def c42(w:World):Exit->Act->World->Prop
 | .ret,a',w'=>a'.defers=[]/\a'.tmps[6]?=some (.bool true)/\w'=w
 | _,_,_=>False
theorem b6c(x:Nat->Value)(w:World):(M3 8).wp Tryz.prog (c4o x w) ⟨#[x 0,x 1,x 2,x 3,x 4,x 5,x 6,x 7,x 8,x 9,x 10,.int .i64 0,x 12,x 13,x 14,.int .i64 0,x 16,x 17,x 18,x 19,x 20,x 21,x 22,x 23,x 24,x 25,x 26,x 27,x 28,x 29,x 30,x 31,x 32,x 33,x 34,x 35,x 36,x 37,x 38,x 39,x 40,x 41,x 42,x 43,x 44,x 45,x 46,x 47,x 48,x 49,x 50,x 51,x 52,x 53,x 54,x 55,x 56,x 57,x 58,x 59,x 60,x 61,x 62,x 63,x 64,x 65,x 66,x 67,x 68,x 69,x 70,x 71,x 72,x 73,x 74,x 75,x 76,x 77,x 78,x 79,x 80,x 81,x 82,x 83,x 84,x 85,x 86,x 87,x 88,x 89,x 90,x 91,x 92,x 93,x 94,x 95,x 96,x 97,x 98,x 99,x 100,x 101,x 102,x 103,x 104,x 105,x 106,x 107,x 108,x 109,x 110,x 111,x 112,x 113,x 114,x 115,x 116,x 117,x 118,x 119,x 120,x 121,x 122,x 123,x 124,x 125,x 126,x 127,x 128,x 129,x 130,x 131,x 132,x 133,x 134,x 135,x 136,x 137,x 138,x 139,x 140,x 141,x 142,x 143,x 144,x 145,x 146,x 147,x 148,x 149],[]⟩ w:=by
 unfold M3 I1;simp only[Code.behind,Code.head,Tryz.f4,Option.getD_some];go_wp2_with fail
 refine(b05 0 w).mono ?_;rintro e w1 ⟨rfl,rfl⟩;go_wp2_with fail
 exact⟨rfl,rfl,rfl,rfl,rfl,rfl,rfl⟩
theorem b3t(x:Nat->Value)(cd:Int)(w:World)(hne:cd≠0):(M3 8).wp Tryz.prog (c42 w) ⟨#[x 0,x 1,x 2,x 3,x 4,x 5,x 6,x 7,x 8,x 9,x 10,.int .i64 cd,x 12,x 13,x 14,.int .i64 cd,x 16,x 17,x 18,x 19,x 20,x 21,x 22,x 23,x 24,x 25,x 26,x 27,x 28,x 29,x 30,x 31,x 32,x 33,x 34,x 35,x 36,x 37,x 38,x 39,x 40,x 41,x 42,x 43,x 44,x 45,x 46,x 47,x 48,x 49,x 50,x 51,x 52,x 53,x 54,x 55,x 56,x 57,x 58,x 59,x 60,x 61,x 62,x 63,x 64,x 65,x 66,x 67,x 68,x 69,x 70,x 71,x 72,x 73,x 74,x 75,x 76,x 77,x 78,x 79,x 80,x 81,x 82,x 83,x 84,x 85,x 86,x 87,x 88,x 89,x 90,x 91,x 92,x 93,x 94,x 95,x 96,x 97,x 98,x 99,x 100,x 101,x 102,x 103,x 104,x 105,x 106,x 107,x 108,x 109,x 110,x 111,x 112,x 113,x 114,x 115,x 116,x 117,x 118,x 119,x 120,x 121,x 122,x 123,x 124,x 125,x 126,x 127,x 128,x 129,x 130,x 131,x 132,x 133,x 134,x 135,x 136,x 137,x 138,x 139,x 140,x 141,x 142,x 143,x 144,x 145,x 146,x 147,x 148,x 149],[]⟩ w:=by
 unfold M3 I1;simp only[Code.behind,Code.head,Tryz.f4,Option.getD_some];go_wp2_with fail
 refine(b05 cd w).mono ?_;rintro e w1 ⟨rfl,rfl⟩;go_wp2_with fail
 refine(b05 cd w).mono ?_;rintro e w1 ⟨rfl,rfl⟩;go_wp2_with fail
 exact⟨rfl,rfl,rfl⟩
def c43(x:Nat->Value)(w:World):Exit->Act->World->Prop
 | .normal,a',w'=>a'.defers=[]/\a'.tmps.size=150/\a'.tmps[1]?=some (x 1)/\a'.tmps[2]?=some (x 2)/\a'.tmps[9]?=some (x 9)/\a'.tmps[14]?=some (x 14)/\a'.tmps[17]?=some (x 17)/\a'.tmps[18]?=some (x 18)/\w'=w
 | _,_,_=>False
theorem c1i(x:Nat->Value)(a1 a2:Option Addr)(n c1 c2:Nat)(h1:x 17=.slice a1 n c1)(h2:x 18=.slice a2 n c2)(w:World):(M3 11).wp Tryz.prog (c43 x w) ⟨#[x 0,x 1,x 2,x 3,x 4,x 5,x 6,x 7,x 8,x 9,x 10,x 11,x 12,x 13,x 14,x 15,x 16,.slice a1 n c1,.slice a2 n c2,x 19,x 20,x 21,x 22,x 23,x 24,x 25,x 26,x 27,x 28,x 29,x 30,x 31,x 32,x 33,x 34,x 35,x 36,x 37,x 38,x 39,x 40,x 41,x 42,x 43,x 44,x 45,x 46,x 47,x 48,x 49,x 50,x 51,x 52,x 53,x 54,x 55,x 56,x 57,x 58,x 59,x 60,x 61,x 62,x 63,x 64,x 65,x 66,x 67,x 68,x 69,x 70,x 71,x 72,x 73,x 74,x 75,x 76,x 77,x 78,x 79,x 80,x 81,x 82,x 83,x 84,x 85,x 86,x 87,x 88,x 89,x 90,x 91,x 92,x 93,x 94,x 95,x 96,x 97,x 98,x 99,x 100,x 101,x 102,x 103,x 104,x 105,x 106,x 107,x 108,x 109,x 110,x 111,x 112,x 113,x 114,x 115,x 116,x 117,x 118,x 119,x 120,x 121,x 122,x 123,x 124,x 125,x 126,x 127,x 128,x 129,x 130,x 131,x 132,x 133,x 134,x 135,x 136,x 137,x 138,x 139,x 140,x 141,x 142,x 143,x 144,x 145,x 146,x 147,x 148,x 149],[]⟩ w:=by
 have H1:=Lib.hid h1;have H2:=Lib.hid h2;clear h1 h2;unfold M3 I1;simp only[Code.behind,Code.head,Tryz.f4,Option.getD_some];go_wp2_with fail
 exact⟨rfl,rfl,rfl,rfl,rfl,rfl,by rw[H1.out];rfl,by rw[H2.out];rfl,rfl⟩
def c44(x:Nat->Value)(w:World):Exit->Act->World->Prop
 | .normal,a',w'=>a'.defers=[]/\a'.tmps.size=150/\a'.tmps[1]?=some (x 1)/\a'.tmps[2]?=some (x 2)/\a'.tmps[9]?=some (x 9)/\a'.tmps[14]?=some (x 14)/\Ext w w'
 | _,_,_=>False
theorem c1j(x:Nat->Value)(a1 a2:Option Addr)(n c1 c2 B1 B2:Nat)(SL:List St)(w:World)(hn:SL.length=n)(hn2:n<=1000000)(h1:w.ownsRow B1 67 5 (.slice a1 n c1) n (SL.flatMap statCells))(h2:w.ownsRow B2 68 5 (.slice a2 n c2) n (SL.flatMap statCells)):
 (M3 12).wp Tryz.prog (c44 x w) ⟨#[x 0,x 1,x 2,x 3,x 4,x 5,x 6,x 7,x 8,x 9,x 10,x 11,x 12,x 13,x 14,x 15,x 16,.slice a1 n c1,.slice a2 n c2,x 19,x 20,x 21,x 22,x 23,x 24,x 25,x 26,x 27,x 28,x 29,x 30,x 31,x 32,x 33,x 34,x 35,x 36,x 37,x 38,x 39,x 40,x 41,x 42,x 43,x 44,x 45,x 46,x 47,x 48,x 49,x 50,x 51,x 52,x 53,x 54,x 55,x 56,x 57,x 58,x 59,x 60,x 61,x 62,x 63,x 64,x 65,x 66,x 67,x 68,x 69,x 70,x 71,x 72,x 73,x 74,x 75,x 76,x 77,x 78,x 79,x 80,x 81,x 82,x 83,x 84,x 85,x 86,x 87,x 88,x 89,x 90,x 91,x 92,x 93,x 94,x 95,x 96,x 97,x 98,x 99,x 100,x 101,x 102,x 103,x 104,x 105,x 106,x 107,x 108,x 109,x 110,x 111,x 112,x 113,x 114,x 115,x 116,x 117,x 118,x 119,x 120,x 121,x 122,x 123,x 124,x 125,x 126,x 127,x 128,x 129,x 130,x 131,x 132,x 133,x 134,x 135,x 136,x 137,x 138,x 139,x 140,x 141,x 142,x 143,x 144,x 145,x 146,x 147,x 148,x 149],[]⟩ w:=by
 have H1:=Lib.hid h1;have H2:=Lib.hid h2;have HN:=Lib.hid hn;clear h1 h2 hn;unfold M3 I1;simp only[Code.behind,Code.head,Tryz.f4,Option.getD_some];go_wp2_with fail
 go_loopw [19] (fun i wr=>∃k:Nat,i=.int .i64 k/\k<=n/\Ext w wr) (fun i _=>n - (intOf i).toNat)
 case atStart=>exact⟨0,rfl,by omega,Ext.refl w⟩
 case round=>
  obtain⟨k,rfl,hk,hE⟩:=hrel;by_cases hlt:k<n
  ·obtain⟨P,hp⟩:∃P,SL[k]?=some P:=⟨_,List.getElem?_eq_getElem (by rw[HN.out];exact hlt)⟩;have r1:=H1.out;have r2:=H2.out;rw[<-HN.out] at r1 r2;obtain⟨g1,d1,e1,l1,-,-,q1⟩:=a4T a0S r1 hp;obtain⟨g2,d2,e2,l2,-,-,q2⟩:=a4T a0S r2 hp;rw[HN.out] at e1 e2 l1 l2;injection e1 with e1 _ e3;injection e2 with e2 _ e4;subst e1;subst e2;subst e3;subst e4;have x0:=hE.cell (q1 0 _ rfl);have x1:=hE.cell (q1 1 _ rfl);have x2:=hE.cell (q1 2 _ rfl);have x3:=hE.cell (q1 3 _ rfl);have x4:=hE.cell (q1 4 _ rfl);have y0:=hE.cell (q2 0 _ rfl);have y1:=hE.cell (q2 1 _ rfl);have y2:=hE.cell (q2 2 _ rfl);have y3:=hE.cell (q2 3 _ rfl);have y4:=hE.cell (q2 4 _ rfl);rw[Nat.add_zero] at x0 y0;have hki:(k:Int)<(n:Int):=by omega
   have HE:=Lib.hid hE;clear hE q1 q2 r1 r2 hp H1 H2;go_wp2_with fail
   go_quiet (fail)
   go_wp2_with fail
   go_quiet (fail)
   go_wp2_with fail
   go_roundw
   case rel=>exact⟨k+1,by go_num,by omega,HE.out.trans (Ext.drewN _ _)⟩
   case measure=>simp[intOf];omega
  ·obtain rfl:k=n:=by omega
   have HE:=Lib.hid hE;clear hE;go_wp2_with fail
   exact⟨rfl,rfl,rfl,rfl,rfl,rfl,HE.out⟩
end
section
open Go.RowKit Go.Lib Go.Maps Dk Pl
def QC5(F:Nat->Prop)(w:World):Exit->Act->World->Prop
 | .ret,a',w'=>a'.defers=[]/\a'.tmps[6]?=some (.bool true)/\Chg F F w w'
 | _,_,_=>False
theorem a0t{T:Array Value}{k:Nat}{v:Value}(h:T[k]?=some v):T.getD k undef=v:=by
 rw[Array.getD_eq_getD_getElem?,h];rfl
section
variable{F:Nat->Prop}{a:Nat}{D:Dk.D}{w:World}{T:Array Value}
theorem c1k{y:Value}{er:Er}(hT:T.size=150)(h8:T[8]?=some (l7 a))(h10:T[10]?=some y)(hD:o8 w F a D)(hc:D.Calm)(hfit:D.Fit)(hL:Laid w)
 (he:Y4 w y er)(hcd:er.code=(J6 D.files).2.1)(hne:er.code≠0):(I1 5).wp Tryz.prog (QC5 F w) ⟨T,[]⟩ w:=by
 rw[c2y];refine wp_seq (Code.wp_mono (fun e a1 w1 q=>?_) (b8I hT h10 hL he));cases e<;>first|exact q.elim|skip
 obtain⟨T1,ds1⟩:=a1;obtain⟨d1,k1,s11,E1⟩:=q;dsimp only at d1 k1 s11;subst d1;show(I1 6).wp _ _ _ _;rw[c2z];have hT1:=k1.size.trans hT;refine wp_seq (Code.wp_mono (fun e a2 w2 q=>?_) (b8J hT1 ((k1.keep 8 rfl).trans h8) (hD.ext E1) hc hfit));cases e<;>first|exact q.elim|skip
 obtain⟨T2,ds2⟩:=a2;obtain⟨d2,k2,fv,rows,s13,hR,hD2,C2⟩:=q;dsimp only at d2 k2 s13;subst d2;show(I1 7).wp _ _ _ _;rw[c2A];have hT2:=k2.size.trans hT1;refine wp_seq (Code.wp_mono (fun e a3 w3 q=>?_) (b8K hT2 s13 hR.files (b1X hD2.wf fun x hx=>hfit.data x hx)));cases e<;>first|exact q.elim|skip
 obtain⟨T3,ds3⟩:=a3;obtain⟨d3,k3,v,s14,s15,hro⟩:=q;dsimp only at d3 k3 s14 s15;subst d3;show(I1 8).wp _ _ _ _;rw[c2B];have hT3:=k3.size.trans hT2;have g11:T3[11]?=some (.int .i64 er.code):=(k3.keep 11 rfl).trans ((k2.keep 11 rfl).trans s11);rw[<-hcd] at s15;have e3:=b0M T3 hT3;rw[a0t g11,a0t s15] at e3;refine wp_seq (Code.wp_mono (fun e a4 w4 q=>?_) ((congrArg (fun T'=>Code.wp _ _ _ ⟨T',[]⟩ _) e3).mpr (b3t (fun k=>T3.getD k undef) er.code w3 hne)));cases e<;>first|exact q.elim|skip
 obtain⟨q1,q2,q3⟩:=q;subst q3;obtain⟨_,_,E3,_⟩:=hro;exact⟨q1,q2,(Chg.ext E1).trans (C2.trans (Chg.ext E3))⟩
theorem c3e{sb gen:Nat}{ids:List Int}{bss:List (List UInt8)}{percent count:Int}(hT:T.size=150)(h1:T[1]?=some (.int .i64 percent))(h2:T[2]?=some (.int .i64 count))(h8:T[8]?=some (l7 a))(h9:T[9]?=some (l7 sb))(h10:T[10]?=some .nilIface)
 (hD:o8 w F a D)(hc:D.Calm)(hfit:D.Fit)(hL:Laid w)(hst:Held w F (fun W=>b5o W sb a gen ids bss))(hids:a6O ids)(hro:J6 D.files=(some (gen,ids,bss),0,[])):(I1 5).wp Tryz.prog (QC5 F w) ⟨T,[]⟩ w:=by
 rw[c2y];refine wp_seq (Code.wp_mono (fun e a1 w1 q=>?_) (b8I (er:=.ok) hT h10 hL rfl));cases e<;>first|exact q.elim|skip
 obtain⟨T1,ds1⟩:=a1;obtain⟨d1,k1,s11,E1⟩:=q;dsimp only at d1 k1 s11;subst d1;show(I1 6).wp _ _ _ _;rw[c2z];have hT1:=k1.size.trans hT;refine wp_seq (Code.wp_mono (fun e a2 w2 q=>?_) (b8J hT1 ((k1.keep 8 rfl).trans h8) (hD.ext E1) hc hfit));cases e<;>first|exact q.elim|skip
 obtain⟨T2,ds2⟩:=a2;obtain⟨d2,k2,fv,rows,s13,hR,hD2,C2⟩:=q;dsimp only at d2 k2 s13;subst d2;show(I1 7).wp _ _ _ _;rw[c2A];have hT2:=k2.size.trans hT1;have hst2:=(hst.ext E1).step C2;refine wp_seq (Code.wp_mono (fun e a3 w3 q=>?_) (b8K hT2 s13 hR.files (b1X hD2.wf fun x hx=>hfit.data x hx)));cases e<;>first|exact q.elim|skip
 obtain⟨T3,ds3⟩:=a3;obtain⟨d3,k3,v,s14,s15,hro3⟩:=q;dsimp only at d3 k3 s14 s15;subst d3;obtain⟨v',ev,E3,hcs⟩:=hro3;rw[hro] at s15 hcs;obtain⟨rb,rfl,hrs,hbss⟩:∃rb,v=l7 rb/\a0C w3 rb gen ids bss/\∀i,(bss.getD i []).length<=1099511627776:=by
  have hvv:v'=v:=by
   injection ev with ev;injection ev with ev;have:=congrArg (fun A:Array Value=>A[0]?) ev;simpa using this.symm
  subst hvv;rcases hcs with⟨h,_⟩|⟨g,i,b,rb,h,_,h3,h4,_,h5⟩
  ·cases h
  ·injection h with h;injection h with q1 h;injection h with q2 q3;subst q1;subst q2;subst q3;exact⟨rb,h4,h5,h3⟩
 have hst3:=hst2.ext E3;have hT3:=k3.size.trans hT2;have g11:T3[11]?=some (.int .i64 0):=(k3.keep 11 rfl).trans ((k2.keep 11 rfl).trans s11);have g1:T3[1]?=some (.int .i64 percent):=(k3.keep 1 rfl).trans ((k2.keep 1 rfl).trans ((k1.keep 1 rfl).trans h1));have g2:T3[2]?=some (.int .i64 count):=(k3.keep 2 rfl).trans ((k2.keep 2 rfl).trans ((k1.keep 2 rfl).trans h2));have g9:T3[9]?=some (l7 sb):=(k3.keep 9 rfl).trans ((k2.keep 9 rfl).trans ((k1.keep 9 rfl).trans h9));show(I1 8).wp _ _ _ _;rw[c2B];have e3:=b0M T3 hT3;rw[a0t g11,a0t s15] at e3;refine wp_seq (Code.wp_mono (fun e a4 w4 q=>?_) ((congrArg (fun T'=>Code.wp _ _ _ ⟨T',[]⟩ _) e3).mpr (b6c (fun k=>T3.getD k undef) w3)));cases e<;>first|exact q.elim|skip
 obtain⟨T4,ds4⟩:=a4;obtain⟨d4,hT4,f1,f2,f9,f14,hw4⟩:=q;dsimp only at d4 hT4 f1 f2 f9 f14;subst d4;subst hw4;rw[a0t g1] at f1;rw[a0t g2] at f2;rw[a0t g9] at f9;rw[a0t s14] at f14;show(I1 9).wp _ _ _ _;rw[c4n];obtain⟨ia,ic,Cb,r,vv,hb,-,hS,hM,hbl⟩:=hst3.get;have hid:=hids.1;refine wp_seq (Code.wp_mono (fun e a5 w5 q=>?_) (c3d hT4 f9 (a8a sb r Cb ids.length ids.length _ _ _ _ ids bss w4 hb ⟨hbl.symm,Nat.le_refl _,by omega⟩ hS hM hbss)));cases e<;>first|exact q.elim|skip
 obtain⟨T5,ds5⟩:=a5;obtain⟨d5,k5,u1,s17,hu1,E5⟩:=q;dsimp only at d5 k5 s17;subst d5;have hT5:=k5.size.trans hT4;show(I1 10).wp _ _ _ _;rw[c27];refine wp_seq (Code.wp_mono (fun e a6 w6 q=>?_) (c1e hT5 ((k5.keep 14 rfl).trans f14) (a8D rb gen ids bss w5 (hrs.ext E5) (by omega) hbss)));cases e<;>first|exact q.elim|skip
 obtain⟨T6,ds6⟩:=a6;obtain⟨d6,k6,u2,s18,hu2,E6⟩:=q;dsimp only at d6 k6 s18;subst d6;have hT6:=k6.size.trans hT5;have hu1':=Dep.row hu1 w6 fun b hb=>E6.block b (World.ownsRow.lt hu1 b hb).2;obtain⟨a1,c1,rfl⟩:=ownsRow_form hu1;obtain⟨a2,c2,rfl⟩:=ownsRow_form hu2;have s17':=(k6.keep 17 rfl).trans s17;show(I1 11).wp _ _ _ _;rw[c29];have e6:=b0M T6 hT6;rw[a0t s17',a0t s18] at e6;refine wp_seq (Code.wp_mono (fun e a7 w7 q=>?_) ((congrArg (fun T'=>Code.wp _ _ _ ⟨T',[]⟩ _) e6).mpr (c1i (fun k=>T6.getD k undef) a1 a2 ids.length c1 c2 (a0t s17') (a0t s18) w6)));cases e<;>first|exact q.elim|skip
 obtain⟨T7,ds7⟩:=a7;obtain⟨d7,hT7,m1,m2,m9,m14,m17,m18,hw7⟩:=q;dsimp only at d7 hT7 m1 m2 m9 m14 m17 m18;subst d7;subst hw7;rw[a0t ((k6.keep 1 rfl).trans ((k5.keep 1 rfl).trans f1))] at m1;rw[a0t ((k6.keep 2 rfl).trans ((k5.keep 2 rfl).trans f2))] at m2;rw[a0t ((k6.keep 9 rfl).trans ((k5.keep 9 rfl).trans f9))] at m9;rw[a0t ((k6.keep 14 rfl).trans ((k5.keep 14 rfl).trans f14))] at m14;rw[a0t s17'] at m17;rw[a0t s18] at m18;show(I1 12).wp _ _ _ _;rw[c3a];have e7:=b0M T7 hT7;rw[a0t m17,a0t m18] at e7;refine wp_seq (Code.wp_mono (fun e a8 w8 q=>?_) ((congrArg (fun T'=>Code.wp _ _ _ ⟨T',[]⟩ _) e7).mpr (c1j (fun k=>T7.getD k undef) a1 a2 ids.length c1 c2 _ _ (U4 ids (y8 bss) ids.length) w7 (a2h _ _ _) (by omega) hu1' hu2)));cases e<;>first|exact q.elim|skip
 obtain⟨T8,ds8⟩:=a8;obtain⟨d8,hT8,n1,n2,n9,n14,E8⟩:=q;dsimp only at d8 hT8 n1 n2 n9 n14;subst d8;rw[a0t m1] at n1;rw[a0t m2] at n2;rw[a0t m9] at n9;rw[a0t m14] at n14;show(I1 13).wp _ _ _ _;rw[c3b];have E48:=E5.trans (E6.trans E8);have hst8:=hst3.ext E48;obtain⟨ia8,ic8,Cb8,r8,vv8,hb8,-,hS8,hM8,-⟩:=hst8.get;refine wp_seq (Code.wp_mono (fun e a9 w9 q=>?_) (c1f hT8 n1 n2 n9 (b6v sb r8 Cb8 ids.length ids.length _ _ _ _ ids bss percent count w8 hb8 ⟨hbl.symm,Nat.le_refl _,by omega⟩ hS8 hM8 hbss)));cases e<;>first|exact q.elim|skip
 obtain⟨T9,ds9⟩:=a9;obtain⟨d9,k9,va,s21,hva,E9⟩:=q;dsimp only at d9 k9 s21;subst d9;have hT9:=k9.size.trans hT8;show(I1 14).wp _ _ _ _;rw[c3c];refine wp_seq (Code.wp_mono (fun e a10 w10 q=>?_) (c1g hT9 ((k9.keep 1 rfl).trans n1) ((k9.keep 2 rfl).trans n2) ((k9.keep 14 rfl).trans n14) (b7A rb gen ids.length ids bss percent count w9 (hrs.ext (E48.trans E9)) rfl (by omega) hbss)));cases e<;>first|exact q.elim|skip
 obtain⟨T10,ds10⟩:=a10;obtain⟨d10,k10,vb,s22,hvb,E10⟩:=q;dsimp only at d10 k10 s22;subst d10;show(I1 15).wp _ _ _ _;refine Code.wp_mono (fun e a11 w11 q=>?_) (c1h (k10.size.trans hT9) ((k10.keep 21 rfl).trans s21) s22 (hva.ints.ext E10) hvb.ints);cases e<;>first|exact q.elim|skip
 obtain⟨q1,q2,E11⟩:=q;exact⟨q1,q2,(Chg.ext E1).trans (C2.trans (Chg.ext (E3.trans (E48.trans (E9.trans (E10.trans E11))))))⟩
end
end
end Go.Proofs.YtgpbhjjajpbeeaaGreatDoor
namespace Go.Nm
section
open Zn (MarkOK HaltOK)
def Nf(P:Program){α:Type}(Q:α->Prop):Sem α->Prop
 | .halt h=>HaltOK h
 | .pure a=>Q a
 | .load _ _ k=>∀v,Nf P Q (k v)
 | .store _ _ _ k=>Nf P Q k
 | .new _ k=>∀r,Nf P Q (k r)
 | .shape _ k=>∀s,Nf P Q (k s)
 | .freeze _ _ k=>Nf P Q k
 | .frozen _ k=>∀b,Nf P Q (k b)
 | .getObj _ k=>∀o,Nf P Q (k o)
 | .setObj _ _ k=>Nf P Q k
 | .choose _ k=>∀n,Nf P Q (k n)
 | .sys c k=>c=.env/\∀r,Nf P Q (k r)
 | .program k=>Nf P Q (k P)
 | .mark m k=>MarkOK m/\Nf P Q k
abbrev Mf(P:Program){α:Type}(s:Sem α):Prop:=Nf P (fun _=>True) s
section
variable{P:Program}
theorem Nf.bind{α β:Type}{R:α->Prop}{Q:β->Prop}{s:Sem α}{f:α->Sem β}(h:Nf P R s)(hf:∀a,R a->Nf P Q (f a)):Nf P Q (s >>= f):=by
 show Nf P Q (s.bind f)
 induction s with
 | halt _=>exact h
 | pure a=>exact hf _ h
 | load m a k ih=>exact fun v=>ih v (h v)
 | store m a v k ih=>exact ih h
 | new o k ih=>exact fun r=>ih r (h r)
 | shape r k ih=>exact fun s=>ih s (h s)
 | freeze a n k ih=>exact ih h
 | frozen a k ih=>exact fun b=>ih b (h b)
 | getObj r k ih=>exact fun o=>ih o (h o)
 | setObj r o k ih=>exact ih h
 | choose q k ih=>exact fun n=>ih n (h n)
 | sys c k ih=>exact⟨h.1,fun r=>ih r (h.2 r)⟩
 | program k ih=>exact ih P h
 | mark m k ih=>exact⟨h.1,ih h.2⟩
theorem j4{α β:Type}{s:Sem α}{f:α->Sem β}(h:Mf P s)(hf:∀a,Mf P (f a)):Mf P (s >>= f):=Nf.bind h fun a _=>hf a
theorem j5{α:Type}(a:α):Mf P (Pure.pure a:Sem α):=trivial
theorem l9{α:Type}(x:String):Mf P (stuck x:Sem α):=trivial
theorem K6{α:Type}(x:Unsupported)(h:HaltOK (.unsupported x)):Mf P (unsupported x:Sem α):=h
theorem a4A{α:Type}(x:Value):Mf P (goPanic x:Sem α):=trivial
theorem c3C{α β:Type}(f:α->β){s:Sem α}(h:Mf P s):Mf P (Functor.map f s):=by rw[map_eq_pure_bind];exact Nf.bind h fun _ _=>trivial
theorem F9{α:Type}{f:Program->Sem α}(h:Mf P (f P)):Mf P (program >>= f):=h
theorem b9I:Mf P (sys .env):=⟨rfl,fun _=>trivial⟩
theorem a97:Mf P (mark .noRoom):=⟨trivial,trivial⟩
theorem z8{α:Type}(c:Prop)[Decidable c]{s t:Sem α}(h:Mf P s)(k:Mf P t):Mf P (if c then s else t):=by split<;>assumption
theorem b2w{α β:Type}(l:List α){b:β}{f:α->β->Sem (ForInStep β)}(h:∀x b,Mf P (f x b)):Mf P (forIn l b f):=by
 induction l generalizing b with
 | nil=>exact trivial
 | cons x l ih=>
  rw[List.forIn_cons];refine j4 (h x b) fun s=>?_
  cases s with
  | done b=>exact trivial
  | yield b=>exact ih
theorem a0k{α β:Type}(l:Array α){b:β}{f:α->β->Sem (ForInStep β)}(h:∀x b,Mf P (f x b)):Mf P (forIn l b f):=by
 rw[<-Array.forIn_toList];exact b2w _ h
theorem a1o{β:Type}(r:Std.Legacy.Range){b:β}{f:Nat->β->Sem (ForInStep β)}(h:∀x b,Mf P (f x b)):Mf P (forIn r b f):=by
 rw[Std.Legacy.Range.forIn_eq_forIn_range'];exact b2w _ h
theorem b9J{α β:Type}(f:α->Sem β)(h:∀x,Mf P (f x)):∀l:List α,Mf P (l.mapM f):=by
 intro l
 induction l with
 | nil=>exact trivial
 | cons x l ih=>
  rw[List.mapM_cons];exact j4 (h x) fun y=>j4 ih fun ys=>trivial
theorem b5y{α β:Type}(l:Array α)(f:α->Sem β)(h:∀x,Mf P (f x)):Mf P (l.mapM f):=by
 rw[Array.mapM_eq_mapM_toList];show Mf P (Functor.map List.toArray _);rw[map_eq_pure_bind];exact j4 (b9J f h _) fun ys=>trivial
theorem a98{α β:Type}(f:β->α->Sem β)(h:∀x y,Mf P (f x y)):∀(l:List α)(b:β),Mf P (l.foldlM f b):=by
 intro l
 induction l with
 | nil=>exact fun _=>trivial
 | cons x l ih=>
  intro b;rw[List.foldlM_cons];exact j4 (h b x) fun y=>ih y
end
end
end Go.Nm
