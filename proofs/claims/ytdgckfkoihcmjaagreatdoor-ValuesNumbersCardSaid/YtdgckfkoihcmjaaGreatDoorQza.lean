/- What the proof of the statement leans on (part 27). -/
import Derived.Deep.Fields
import Derived.Test.YtdgckfkoihcmjaaGreatDoorQz

namespace Go.Proofs.YtdgckfkoihcmjaaGreatDoor
open Go Go.Lw
set_option maxRecDepth 20000 set_option maxHeartbeats 4000000
section
variable {h:aj}
theorem yV (hg:qX h) (n:Int) (hn : -9223372036854775808<=n/\n<=9223372036854775807) :
 av Tryz.prog 34 #[.int .i64 n,.int .i64 10] h (bq fun r h'=>r= .string (bs (Lib.itoa n))/\aq h h'):=by
 refine av.pL fun w hw=>?_
 subst hw;refine(Tryz.strconv_FormatInt_10 n hn.1 hn.2 w hg).mono ?_;rintro e w' ⟨rfl,k,os,rfl⟩;refine⟨_,rfl,⟨rfl,?_⟩,rfl,rfl,rfl⟩;refine⟨by simp[Go.Sort.grow],fun b hb _=>?_⟩;simp[Go.Sort.grow,Array.getElem?_append_left hb]
theorem wh (b:Bool):av Tryz.prog 35 #[.bool b] h (bq fun r h'=>r= .string (bs (Lib.formatBool b))/\h'=h) :=
 av.sO fun w=>Tryz.strconv_FormatBool b w
theorem rC (hg:FD h){O:Nat->Prop}{w:Value}{x:Vl}(hw:cG h O w x) (hk:x.kind=1) (hn : -9223372036854775808<=x.num/\x.num<=9223372036854775807) :
 av Tryz.prog 16 #[w] h (bq fun r h'=>r= .string (bs (Lib.itoa x.num))/\aq h h'):=by
 obtain⟨nk,nt,a,n,c,ea,en,ec,rfl,hb,hR,he⟩:=cG.get hw;rw[hk];refine bP ?_;refine af ?_;refine xo rfl (iF) ?_;rintro _ h1 ⟨rfl,k1,e1,z1⟩;have k1:aC h1 h.size 30 (iG 1 x.num x.fO x.self nk nt a n c ea en ec):=k1;refine af ?_;refine xp rfl (az rfl (k1.cell (i:=0) rfl)) ?_;refine af ?_;refine eu rfl (by simp) ?_;refine af ?_;refine xp rfl (az rfl (k1.cell (i:=1) rfl)) ?_;refine xo rfl (aF rfl (yV ((hg.ah e1).ex.lx.tens) x.num hn)) ?_;rintro _ h2 ⟨rfl,e2⟩;refine af ?_;refine bh ?_;exact⟨_,rfl,rfl,e1.trans e2⟩
theorem rB {O:Nat->Prop}{w:Value}{b:Bool}(hw:cG h O w (dF b)) :
 av Tryz.prog 16 #[w] h (bq fun r h'=>r= .string (bs (Lib.formatBool b))/\aq h h'):=by
 obtain⟨nk,nt,a,n,c,ea,en,ec,rfl,hb,hR,he⟩:=cG.get hw;refine bP ?_;refine af ?_;refine xo rfl (iF) ?_;rintro _ h1 ⟨rfl,k1,e1,z1⟩;have k1:aC h1 h.size 30 (iG 2 (if b then 1 else 0) [] [] nk nt a n c ea en ec):=k1;refine af ?_;refine xp rfl (az rfl (k1.cell (i:=0) rfl)) ?_;refine af ?_;refine eC rfl (by simp) ?_;refine af ?_;refine eu rfl (by simp) ?_;refine af ?_;refine xp rfl (az rfl (k1.cell (i:=1) rfl)) ?_;refine af ?_;refine xo rfl (aF rfl (wh _)) ?_;rintro _ _ ⟨rfl,rfl⟩;refine af ?_;refine bh ?_;exact⟨_,rfl,by cases b<;>rfl,e1⟩
theorem jz (hg:FD h){p:Value}(kx:ow h p) (s:By) (hs:s.length<=1000){x:Tr}(hP:eM s (gS s).1 (gS s).2.1 [x] 0 0) (hx:x.wt<=1000000) :
 av Tryz.prog 18 #[p,.string (bs s)] h (bq fun r h'=>∃v,r=packed [v,.int .i64 (gk [] x).2.1,.int .i64 (gk [] x).2.2]/\cG h' (fun _=>False) v (gk [] x).1/\aq h h'):=by
 have hlen:(gS s).1.length<=s.length:=BI _ _ _ _;have hb:(gS s).1.length*(s.length+2)<=1000000000000:=Nat.le_trans (Nat.mul_le_mul (Nat.le_trans hlen hs) (show s.length+2<=1002 by omega)) (by decide);refine bP ?_;refine af ?_;refine xo rfl (cm) ?_;rintro _ h1 ⟨rfl,k4,e1,z1⟩;refine af ?_;refine xo rfl (aF rfl (CI (hg.ah e1).ex.lx (kx.ah e1) s (by omega))) ?_;rintro _ h2 ⟨⟨v,rfl,hv⟩,e2⟩;refine af ?_;refine xo rfl (cm) ?_;rintro _ h3 ⟨rfl,k3,e3,z3⟩;refine af ?_;refine aH rfl (aK rfl rfl k3 (gX _)) ?_;rintro _ h4 ⟨rfl,k34,x4,z4⟩;have k34:aC h4 h2.size 54 (bT (gS s).2):=k34;have e24:aq h2 h4:=aq.only e3 x4 (Nat.le_refl _);have e04:=(e1.trans e2).trans e24;have hcall:=xP ((hg.ah e04).ex.esc) (hv.ah e24) s (gS s).2 hb (by omega) hP;refine af ?_;refine xp rfl (bV rfl k34.row) ?_;refine xo rfl (aF rfl hcall) ?_;rintro _ h5 ⟨e5,lv,rfl,s5⟩;have e15:=(e2.trans e24).trans e5;have e05:=e1.trans e15;obtain⟨la,ln,lc,rfl,hks⟩:=s5.open;have hkn:=hks.len;have hkn:1=ln:=hkn;subst hkn;have zz:=And.intro e1.size (And.intro e2.size (And.intro e24.size e5.size));obtain⟨b1,o1',xk,xt,xa,xn,xc,ha1,hb1,hr1,hk1⟩:=fX hks (i:=0) (by omega)
 iterate 7 refine aZ ?_
 refine cV ?_
 iterate 2 refine aR ?_
 refine dW [(32,.bool false)] rfl ?_ ?_
 · refine af ?_;refine RW.ck (d:=28) (b':=false) rfl (decide_eq_false (by decide)) ?_;refine af ?_;exact aA rfl ⟨ai rfl (by simp),sb rfl⟩
 · refine eC rfl (by simp) ?_;have hE:=vM (O:=fun b=>b=h.size) (hg.ah e05) (aY.nil eB h5 _) (fun b q=>by omega) (vZ.nil _) (hk1.mv (Mv.cg (Ext.refl (fun _=>False) _) fun b _ hn=>⟨fun q=>q,fun q=>hn (by omega)⟩)) hx
   iterate 2 refine aR ?_
   refine de ?_
   iterate 4 refine aZ ?_
   refine xp rfl (cK rfl rfl 0 rfl ha1) ?_;refine xp rfl (bV rfl hr1) ?_;refine xo rfl (aF rfl hE) ?_;rintro _ h6 ⟨v6,rfl,hv6,e6⟩;obtain⟨nk',nt',ya,yn,yc,ea',en',ec',rfl,_,hR6,_⟩:=cG.get hv6;have z6:=e6.size;refine af ?_;refine aH rfl (aK rfl rfl (((k4.ah e15).ah e6)) dX) ?_;rintro _ h7 ⟨rfl,k7,x7,z7⟩;refine af ?_;refine bF (br rfl k7.row (dM (dM bE))) ?_;exact⟨_,rfl,_,rfl,cG.of (eV.mv hR6 (cC (fun _ q=>q.elim) rfl x7)),aq.only (e05.trans e6) x7 (by omega)⟩
theorem Hv {n:Tr}{env:List Bd}{v:Vl}{m:Nat}(hv:bQ aS n=true) (h:bp 2000 2000 env n=(v,0,m)):gk env n=(v,2000-(m:Int),0):=by
 unfold gk;rw[if_pos hv,h];rfl
theorem PG:gk [] NT=(fT 7,5,0):=Hv (by decide +kernel) Pk
theorem PF:gk [] NS=(dF true,5,0):=Hv (by decide +kernel) Pj
theorem PE:gk [] Nt=(gp,3,2):=by
 unfold gk;rw[if_pos (by decide +kernel:bQ aS Nt=true),Ph];rfl
theorem PD:gk [] NR=(dF true,2,0):=Hv (by decide +kernel) Pg
theorem PB:(gk [] KA).1=fT 120/\(gk [] KA).2.2=0:=by
 unfold gk;rw[if_pos (by decide +kernel:bQ aS KA=true),OM.2,if_pos rfl,OM.1];exact⟨rfl,rfl⟩
theorem mE (hg:FD h):av Tryz.prog 5 #[] h (bq fun r h'=>r= .bool true/\aq h h'):=by
 obtain⟨lim,hl1,hl2⟩:=hg.ex.lx.sg;refine bP ?_;refine af ?_;refine xo rfl (aF rfl (EF hl2 hl1 hg.ex.lx.tens hg.ex.lx.rules)) ?_;rintro p g0 ⟨kx,e0⟩;have c1:=jz (hg.ah e0) kx Ns (by decide) Pt (by decide +kernel);rw[PG] at c1;refine af ?_;refine xo rfl (aF rfl c1) ?_;rintro _ g1a ⟨v1,rfl,hv1,x1⟩;obtain⟨nk1,nt1,a1,n1,m1,ea1,en1,ec1,rfl,_,hR1,_⟩:=cG.get hv1;refine af ?_;refine xo rfl (cm) ?_;rintro _ g1b ⟨rfl,k1,y1,z1⟩;refine aH rfl (aK rfl rfl k1 dX) ?_;rintro _ g1 ⟨rfl,kk1,w1,zz1⟩;have kk1:aC g1 g1a.size 30 (iG 1 7 [] [] nk1 nt1 a1 n1 m1 ea1 en1 ec1):=kk1;have d1:aq g1a g1:=aq.only y1 w1 (Nat.le_refl _);have F1:=x1.trans d1;have E1:=e0.trans F1;have c2:=jz (hg.ah E1) (kx.ah F1) Nr (by decide) Pr (by decide +kernel);rw[PF] at c2;refine af ?_;refine xo rfl (aF rfl c2) ?_;rintro _ g2a ⟨v2,rfl,hv2,x2⟩;obtain⟨nk2,nt2,a2,n2,m2,ea2,en2,ec2,rfl,_,hR2,_⟩:=cG.get hv2;refine af ?_;refine xo rfl (cm) ?_;rintro _ g2b ⟨rfl,k2,y2,z2⟩;refine aH rfl (aK rfl rfl k2 dX) ?_;rintro _ g2 ⟨rfl,kk2,w2,zz2⟩;have kk2:aC g2 g2a.size 30 (iG 2 1 [] [] nk2 nt2 a2 n2 m2 ea2 en2 ec2):=kk2;have d2:aq g2a g2:=aq.only y2 w2 (Nat.le_refl _);have F2:=F1.trans (x2.trans d2);have E2:=e0.trans F2;have kk1:=kk1.ah (x2.trans d2);have c3:=jz (hg.ah E2) (kx.ah F2) Nq (by decide) Pq (by decide +kernel);rw[PE] at c3;refine af ?_;refine xo rfl (aF rfl c3) ?_;rintro _ g3a ⟨v3,rfl,hv3,x3⟩;obtain⟨nk3,nt3,a3,n3,m3,ea3,en3,ec3,rfl,_,hR3,_⟩:=cG.get hv3;refine af ?_;refine xo rfl (cm) ?_;rintro _ g3b ⟨rfl,k3,y3,z3⟩;refine aH rfl (aK rfl rfl k3 dX) ?_;rintro _ g3 ⟨rfl,kk3,w3,zz3⟩;have kk3:aC g3 g3a.size 30 (iG 0 0 [] [] nk3 nt3 a3 n3 m3 ea3 en3 ec3):=kk3;have d3:aq g3a g3:=aq.only y3 w3 (Nat.le_refl _);have F3:=F2.trans (x3.trans d3);have E3:=e0.trans F3;have kk1:=kk1.ah (x3.trans d3);have kk2:=kk2.ah (x3.trans d3);have c4:=jz (hg.ah E3) (kx.ah F3) Np (by decide) Pp (by decide +kernel);rw[PD] at c4;refine af ?_;refine xo rfl (aF rfl c4) ?_;rintro _ g4a ⟨v4,rfl,hv4,x4⟩;obtain⟨nk4,nt4,a4,n4,m4,ea4,en4,ec4,rfl,_,hR4,_⟩:=cG.get hv4;refine af ?_;refine xo rfl (cm) ?_;rintro _ g4b ⟨rfl,k4,y4,z4⟩;refine aH rfl (aK rfl rfl k4 dX) ?_;rintro _ g4 ⟨rfl,kk4,w4,zz4⟩;have kk4:aC g4 g4a.size 30 (iG 2 1 [] [] nk4 nt4 a4 n4 m4 ea4 en4 ec4):=kk4;have d4:aq g4a g4:=aq.only y4 w4 (Nat.le_refl _);have F4:=F3.trans (x4.trans d4);have E4:=e0.trans F4;have kk1:=kk1.ah (x4.trans d4);have kk2:=kk2.ah (x4.trans d4);have kk3:=kk3.ah (x4.trans d4);have c5:=jz (hg.ah E4) (kx.ah F4) No (by decide) Po (by decide +kernel);have q5:=PB;generalize gk [] KA=o5 at c5 q5;obtain⟨w5,s5,r5⟩:=o5;obtain⟨rfl,rfl⟩:w5=fT 120/\r5=0:=q5;dsimp only at c5;refine af ?_;refine xo rfl (aF rfl c5) ?_;rintro _ g5a ⟨v5,rfl,hv5,x5⟩;obtain⟨nk5,nt5,a5,n5,m5,ea5,en5,ec5,rfl,_,hR5,_⟩:=cG.get hv5;refine af ?_;refine xo rfl (cm) ?_;rintro _ g5b ⟨rfl,k5,y5,z5⟩;refine aH rfl (aK rfl rfl k5 dX) ?_;rintro _ g5 ⟨rfl,kk5,w5,zz5⟩;have kk5:aC g5 g5a.size 30 (iG 1 120 [] [] nk5 nt5 a5 n5 m5 ea5 en5 ec5):=kk5;have d5:aq g5a g5:=aq.only y5 w5 (Nat.le_refl _);have F5:=F4.trans (x5.trans d5);have E5:=e0.trans F5;have kk1:=kk1.ah (x5.trans d5);have kk2:=kk2.ah (x5.trans d5);have kk3:=kk3.ah (x5.trans d5);have kk4:=kk4.ah (x5.trans d5);have hg5:=hg.ah E5;have s1:=rC (x:=fT 7) hg5 (cG.of (eV.mv hR1 (Mv.ah ((((d1.trans (x2.trans d2)).trans (x3.trans d3)).trans (x4.trans d4)).trans (x5.trans d5))))) rfl (by decide);have s2:∀{g:aj},aq g5 g->_:=fun {g} e=>rB (b:=true) (cG.of (eV.mv (eV.mv hR2 (Mv.ah (((d2.trans (x3.trans d3)).trans (x4.trans d4)).trans (x5.trans d5)))) (Mv.ah e)))
 have s4:∀{g:aj},aq g5 g->_:=fun {g} e=>rB (b:=true) (cG.of (eV.mv (eV.mv hR4 (Mv.ah (d4.trans (x5.trans d5)))) (Mv.ah e)))
 have s5':∀{g:aj},aq g5 g->_:=fun {g} e=>rC (x:=fT 120) (hg5.ah e) (cG.of (eV.mv (eV.mv hR5 (Mv.ah d5)) (Mv.ah e))) rfl (by decide)
 iterate 2 refine aZ ?_
 refine cV ?_;refine aR ?_;refine J0 (fun(u:Unit) (h':aj)=>aq g5 h') (fun(u:Unit)=>[(0,.bool true)]) rfl ?_ ?_
 · refine af ?_;refine RW.ck (d:=50) (b':=true) rfl (decide_eq_true (by rfl)) ?_;refine xp rfl (bV rfl kk1.row) ?_;refine xo rfl (aF rfl s1) ?_;rintro _ j1 ⟨rfl,f1⟩;refine af ?_;refine RW.ck (d:=55) (b':=true) rfl (decide_eq_true (by decide +kernel)) ?_;refine af ?_;refine RW.ck (d:=59) (b':=true) rfl (decide_eq_true (by rfl)) ?_;refine af ?_;refine RW.ck (d:=63) (b':=true) rfl (decide_eq_true (by rfl)) ?_;refine xp rfl (bV rfl (kk2.ah f1).row) ?_;refine xo rfl (aF rfl ((s2 f1))) ?_;rintro _ j2 ⟨rfl,f2⟩;have f12:=f1.trans f2;refine af ?_;refine RW.ck (d:=68) (b':=true) rfl (decide_eq_true (by decide +kernel)) ?_;refine af ?_;refine RW.ck (d:=72) (b':=true) rfl (decide_eq_true (by rfl)) ?_;refine af ?_;refine RW.ck (d:=76) (b':=true) rfl (decide_eq_true (by rfl)) ?_;refine xp rfl (bV rfl (kk4.ah f12).row) ?_;refine xo rfl (aF rfl ((s4 f12))) ?_;rintro _ j3 ⟨rfl,f3⟩;have f13:=f12.trans f3;refine af ?_;refine RW.ck (d:=81) (b':=true) rfl (decide_eq_true (by decide +kernel)) ?_;refine af ?_;refine RW.ck (d:=85) (b':=true) rfl (decide_eq_true (by rfl)) ?_;refine xp rfl (bV rfl (kk5.ah f13).row) ?_;refine xo rfl (aF rfl ((s5' f13))) ?_;rintro _ j4 ⟨rfl,f4⟩;refine af ?_;exact lg () (f13.trans f4) ⟨ai rfl (by decide +kernel),sb rfl⟩
 · rintro u h' e';refine bh ?_;exact⟨_,rfl,rfl,E5.trans e'⟩
end
end Go.Proofs.YtdgckfkoihcmjaaGreatDoor
namespace Go.Proofs.YtdgckfkoihcmjaaGreatDoor
open Go.Proofs.Tryz
open Go Go.Lw Go.ChangeShapes Go.WideShapes Go.ChangeAt Go.RowKit
set_option maxRecDepth 20000 set_option maxHeartbeats 4000000
theorem Ep {H:Type}{enc:TypeId×Value->H}{W:World}{base:Nat}{v:Value}{d:DataW H}{p:List MemPlace}{sp:Nat->Bool}{held:Bool}(hv:Value.okWide Tryz.prog W .any base 22 v) (h:DataW.Trod enc Tryz.prog W 0 sp held 22 v d p):∃a b:By,v= .agg #[.string (bs a),.string (bs b)]:=by
 unfold Value.okWide at hv;rw[underlying22] at hv;obtain⟨cs,rfl,hs,_⟩:=hv;obtain⟨fuel,hf⟩:=h;obtain⟨xs,m,_,_,hl,hxl,hel⟩:=DataW.trod_array underlying22 hf;have c1:Tryz.prog.cellsOf 9=1:=by kernel_rfl
 have c2:Tryz.prog.cellsOf 22=2:=by kernel_rfl
 rw[c2] at hs;rw[c1] at hel;obtain⟨l⟩:=cs
 match l,hs with
 | [u0,u1],_ =>
  have h0:=hel 0 (by decide);have h1:=hel 1 (by decide);rw[List.getElem?_eq_getElem (by omega)] at h0 h1;obtain⟨n0,e0,_,_⟩:=DataW.trod_string underlying9 (show DataW.trod enc Tryz.prog W 0 sp held m 9 [u0]=some _ from h0);obtain⟨n1,e1,_,_⟩:=DataW.trod_string underlying9 (show DataW.trod enc Tryz.prog W 0 sp held m 9 [u1]=some _ from h1);simp at e0 e1;subst e0 e1;exact⟨n0.data.toList,n1.data.toList,by simp[MK]⟩
theorem bG {c:Prop}[Decidable c]{a b:Vl×Int}(h1:∃x y t e,a=(fl x y t,e)) (h2:∃x y t e,b=(fl x y t,e)):∃x y t e,(if c then a else b)=(fl x y t,e):=by
 by_cases h:c
 · rw[if_pos h];exact h1
 · rw[if_neg h];exact h2
theorem gy (e:Int):∃x y t e',((gp,e):Vl×Int)=(fl x y t,e'):=⟨_,_,_,_,rfl⟩
theorem jQ (b:Bool):∃x y t e',((dF b,0):Vl×Int)=(fl x y t,e'):=⟨_,_,_,_,rfl⟩
theorem Bt (op:By) (w:Int):∃x y t e,fE op w=(fl x y t,e):=by
 unfold fE;exact bG (jQ _) (bG (jQ _) (bG (jQ _) (bG (jQ _) (bG (jQ _) (bG (jQ _) (gy _))))))
theorem pO (n:Int):∃x y t e',((fT n,0):Vl×Int)=(fl x y t,e'):=⟨_,_,_,_,rfl⟩
theorem EC (op:By) (a b:Int):∃x y t e,bJ op a b=(fl x y t,e):=by
 unfold bJ;exact bG (bG (pO _) (gy _)) (bG (bG (pO _) (gy _)) (bG (bG (pO _) (gy _)) (bG (bG (gy _) (pO _)) (Bt _ _))))
theorem HG (op:By) (a b:Vl):∃x y t e,gQ op a b=(fl x y t,e):=by
 unfold gQ;exact bG (gy _) (bG (EC _ _ _) (bG (bG (gy _) ⟨_,_,_,_,rfl⟩) (bG (Bt _ _) (bG (jQ _) (bG (jQ _) (gy _))))))
theorem Hj (op:By) (ka na kb nb:Int) (sa sb:By):∃x y t e,Bh (lu op (fl ka na sa) (fl kb nb sb))=(fl x y t,e):=by
 have h:∃x y t e,lu op (fl ka na sa) (fl kb nb sb)=(fl x y t,e):=by
  unfold lu;exact bG (bG (gy _) (bG ⟨_,_,_,_,rfl⟩ (bG (gy _) ⟨_,_,_,_,rfl⟩))) (HG _ _ _)
 unfold Bh;exact bG h (gy _)
theorem GF {op:By}(ho:op∈dB) (ka na kb nb:Int) (sa sb:By):∃st,gk (Cs ka na sa kb nb sb) (Gy op)=((Bh (lu op (fl ka na sa) (fl kb nb sb))).1,st,(Bh (lu op (fl ka na sa) (fl kb nb sb))).2):=by
 have hval:bQ aS (Gy op)=true:=by
  unfold dB at ho;simp only[List.mem_cons,List.not_mem_nil,or_false] at ho
  rcases ho with rfl|rfl|rfl|rfl|rfl|rfl|rfl|rfl|rfl|rfl|rfl|rfl|rfl<;>decide +kernel
 have e1:∀m,bp 1999 (m+1) (Cs ka na sa kb nb sb) (.mk 3 [97] [])=(fl ka na sa,0,m):=fun m=>by
  show ((dZ [97] (Cs ka na sa kb nb sb)).1,(dZ [97] (Cs ka na sa kb nb sb)).2,m)=_
  unfold dZ dZ dZ;rfl
 have e2:∀m,bp 1999 (m+1) (Cs ka na sa kb nb sb) (.mk 3 [98] [])=(fl kb nb sb,0,m):=fun m=>by
  show ((dZ [98] (Cs ka na sa kb nb sb)).1,(dZ [98] (Cs ka na sa kb nb sb)).2,m)=_
  unfold dZ dZ dZ;rfl
 have e:bp 2000 2000 (Cs ka na sa kb nb sb) (Gy op)=D3 (bp 1999) 1999 (Cs ka na sa kb nb sb) op [.mk 3 [97] [],.mk 3 [98] []]:=rfl
 have key:∃m,bp 2000 2000 (Cs ka na sa kb nb sb) (Gy op)=((lu op (fl ka na sa) (fl kb nb sb)).1,(lu op (fl ka na sa) (fl kb nb sb)).2,m):=by
  rw[e];unfold D3 lu;rw[show ([.mk 3 [97] [],.mk 3 [98] []]:List Tr).getD 0 cj= .mk 3 [97] [] from rfl,show ([.mk 3 [97] [],.mk 3 [98] []]:List Tr).getD 1 cj= .mk 3 [98] [] from rfl,e1 1998];dsimp only;rw[if_neg (by simp),e2 1997];dsimp only
  by_cases hoa:op=l9\/op=jb
  · rw[if_pos hoa,if_pos hoa]
    by_cases h1:(fl ka na sa).kind≠2
    · rw[if_pos h1,if_pos h1];exact⟨_,rfl⟩
    · rw[if_neg h1,if_neg h1]
      by_cases h2:decide ((fl ka na sa).num≠0)=decide (op=l9)
      · rw[if_pos h2,if_pos h2];exact⟨_,rfl⟩
      · rw[if_neg h2,if_neg h2]
        by_cases h3:(fl kb nb sb).kind≠2
        · rw[if_pos ⟨rfl,h3⟩,if_pos h3];exact⟨_,rfl⟩
        · rw[if_neg (fun q=>h3 q.2),if_neg h3];exact⟨_,rfl⟩
  · rw[if_neg hoa,if_neg hoa,if_neg (by simp)];exact⟨_,rfl⟩
 obtain⟨m,hm⟩:=key;unfold gk;rw[if_pos hval,hm];dsimp only;refine⟨2000-(m:Int),?_⟩;unfold Bh
 by_cases h0:(lu op (fl ka na sa) (fl kb nb sb)).2=0
 · rw[if_pos h0,if_pos h0]
 · rw[if_neg h0,if_neg h0]
theorem HJ {h:aj}{O:Nat->Prop}{c1 c2:List Value}{x y:Bd}{T:TypeId}(q1:eB.R h O c1 x) (q2:eB.R h O c2 y){base:Nat}(hb:base<=h.size):cy eB O (h.push (.cells (c1++c2).toArray T)) base T (.slice (some ⟨h.size,0,none⟩) 2 2) [x,y]:=by
 have:=cy.Ke (e:=eB) (O:=O) (h:=h) (css:=[c1,c2]) (xs:=[x,y]) (t:=T) (base:=base) (n:=2) rfl (fun i cs z h1 h2=>by
  match i with
  | 0=>simp at h1 h2;subst h1 h2;exact q1
  | 1=>simp at h1 h2;subst h1 h2;exact q2
  |i+2=>simp at h1) hb rfl (by decide)
 simpa using this
def PV (h:aj) (b:Nat) (T:TypeId) (k n:Int) (s:By):Prop:=∃nk nt a m c ea en ec,aC h b T (iG k n s [] nk nt a m c ea en ec)/\vN (.agg #[.int .i64 k,.int .i64 n,.string (bs s),.string (bs []),.int .i64 nk,.string (bs nt),.slice a m c,.slice ea en ec]) k n s []
theorem KP {i:Nat}(h:i<13):(dB.map fun g=>Value.string (bs g))[i]? =some (.string (bs (dB.getD i [])))/\dB.getD i []∈dB:=by
 have h:i<dB.length:=h;rw[List.getElem?_map,List.getD_eq_getElem?_getD,List.getElem?_eq_getElem h];exact⟨rfl,List.getElem_mem h⟩
theorem AH {h:aj}(hg:FD h) (a b:Int) (ha:gx a) (hb:gx b) (s0 s1:By) :
 av Tryz.prog 3 #[.int .i64 a,.int .i64 b,.agg #[.string (bs s0),.string (bs s1)]] h (bq fun r h'=>r= .bool true/\aq h h'):=by
 have hz0:=aL s0;have hz1:=aL s1;refine bP ?_;refine af ?_;refine xo rfl (iF) ?_;rintro _ h1 ⟨rfl,k5,e1,z1⟩;have k5:aC h1 h.size 22 [.string (bs s0),.string (bs s1)]:=k5;refine aZ ?_;refine cV ?_
 iterate 2 refine aR ?_
 refine dW [(28,.bool (decide (600<s0.length\/600<s1.length)))] rfl ?_ ?_
 · refine af ?_;refine xp rfl (az rfl (k5.cell (i:=0) rfl)) ?_;refine af ?_;refine b9 23 (fun p=>?_) (fun p=>?_)
   · have p:=of_decide_eq_true p;refine af ?_;exact aA rfl ⟨ai rfl (by rw[decide_eq_true (by omega)]),sb rfl⟩
   · have p:=of_decide_eq_false p;refine af ?_;refine xp rfl (az rfl (k5.cell (i:=1) rfl)) ?_;refine af ?_;exact aA rfl ⟨ai rfl (by rw[decide_eq_decide];omega),sb rfl⟩
 · refine aP (fun hbig=>?_) (fun hbig=>?_)
   · refine af ?_;refine xo rfl (aF rfl (mE (hg.ah e1))) ?_;rintro _ h2 ⟨rfl,e2⟩;refine af ?_;refine bh ?_;exact⟨_,rfl,rfl,e1.trans e2⟩
   · refine af ?_;refine xp rfl (au (H.dm _ _ _ _ _ _ _ _ _ _ _ _ _) rfl) ?_;refine xo rfl (cm) ?_;rintro _ h2 ⟨rfl,k7,e2,z2⟩;refine aH rfl (aK rfl rfl k7 ((fun v hv=>by simp at hv;rcases hv with rfl|rfl|rfl|rfl|rfl|rfl|rfl|rfl|rfl|rfl|rfl|rfl|rfl<;>rfl))) ?_;rintro _ h3 ⟨rfl,k73,x3,z3⟩;have k73:aC h3 h1.size 24 (dB.map fun g=>Value.string (bs g)):=k73;have e13:aq h1 h3:=aq.only e2 x3 (Nat.le_refl _);have e03:=e1.trans e13;have k53:=k5.ah e13;refine af ?_;refine gJ (σ:=Nat) (fun i=>[(8,.int .i64 (i:Nat))]) (fun i h'=>aq h3 h'/\i<=13) (fun i=>13-i) (0) ⟨Ext.refl _ _,by decide⟩ rfl ?_;rintro i w0 ⟨f0,hi⟩ ih1;refine af ?_;refine aP (fun hi13=>?_) (fun hi13=>?_)
     · have hi13:i<13:=by omega
       obtain⟨htx,ho⟩:=KP hi13;generalize dB.getD i []=op at htx ho
       iterate 4 refine aR ?_
       refine de ?_;refine aZ ?_;refine xp rfl (xM rfl rfl i rfl hi13) ?_;refine xp rfl (az rfl (by rw[Nat.zero_add,Nat.mul_one];exact(k73.ah f0).cell htx)) ?_;refine xp rfl (au (H.iz _ _) rfl) ?_;refine xp rfl (au (H.iz _ _) rfl) ?_;refine xo rfl (aT.kR underlying25 H.Hw ([lY 3 [97] none 0 0,lY 3 [98] none 0 0]) rfl rfl (by decide) (by simp<;>repeat' (first|rfl|constructor))) ?_;rintro _ w1 ⟨rfl,hw1⟩;refine xp rfl (au (H.jA _ _ _ _ _) rfl) ?_;refine xo rfl (cm) ?_;rintro _ w2 ⟨rfl,k9,f2,y2⟩;refine aH rfl (aK rfl rfl k9 jH) ?_;rintro _ w3 ⟨rfl,k93,y3,y4⟩;have k93:aC w3 w1.size 27 [.int .i64 5,.string (bs op),.slice (some ⟨w0.size,0,none⟩) 2 2]:=k93;have f01:aq w0 w1:=by rw[hw1];exact Ext.push _ _ _
       have hkd:aY eN w1 (fun _=>False) (.slice (some ⟨w0.size,0,none⟩) 2 2) [.mk 3 [97] [],.mk 3 [98] []]:=by
        rw[hw1];exact(pQ (h:=w0) (O:=fun _=>False) (T:=27) (base:=0) (jU (aY.nil _ _ _)) (jU (aY.nil _ _ _)) (Nat.zero_le _)).read (fun _ _ q=>q) (fun _ _ q=>q)
       have f13:aq w1 w3:=aq.only f2 y3 (Nat.le_refl _);have f03:=f0.trans (f01.trans f13);have hnd:cL w3 (fun _=>False) (.agg #[.int .i64 5,.string (bs op),.slice (some ⟨w0.size,0,none⟩) 2 2]) (Gy op):=cL.of (jU (hkd.mv (Mv.ah f13)));have k5w:=k53.ah f03;refine af ?_;refine gJ (σ:=Nat) (fun j=>[(10,.int .i64 (j:Nat))]) (fun j h'=>aq w3 h'/\j<=5) (fun j=>5-j) (0) ⟨Ext.refl _ _,by decide⟩ rfl ?_;rintro j q0 ⟨p0,hj⟩ ih2;refine af ?_;refine aP (fun hj5=>?_) (fun hj5=>?_)
       · refine af ?_;refine gJ (σ:=Nat) (fun m=>[(11,.int .i64 (m:Nat))]) (fun m h'=>aq w3 h'/\m<=5) (fun m=>5-m) (0) ⟨p0,by decide⟩ rfl ?_;rintro m q1 ⟨p1,hm⟩ ih3;refine af ?_;refine aP (fun hm5=>?_) (fun hm5=>?_)
         · obtain⟨x,y,t,e,hfin⟩:=Hj op (j:Int) a (m:Int) b s0 s1;obtain⟨st,hev⟩:=GF ho (j:Int) a (m:Int) b s0 s1;rw[hfin] at hev
           have hz:op.length<=3:=by
            unfold dB at ho;simp only[List.mem_cons,List.not_mem_nil,or_false] at ho
            rcases ho with rfl|rfl|rfl|rfl|rfl|rfl|rfl|rfl|rfl|rfl|rfl|rfl|rfl<;>decide
           have hwt:(Gy op).wt<=1000000:=by simp[Tr.wt,Iv];omega
           have hl0:s0.length<=600/\s1.length<=600:=by omega
           have k5q:=k5w.ah p1;refine af ?_;refine xp rfl (az rfl (k5q.cell (i:=0) rfl)) ?_;refine xp rfl (au (H.vj _ _ _) rfl) ?_;refine xp rfl (au (H.vi _ _ _ _ _ _ _ _ _) rfl) ?_;refine af ?_;refine xp rfl (az rfl (k5q.cell (i:=1) rfl)) ?_;refine xp rfl (au (H.vj _ _ _) rfl) ?_;refine xp rfl (au (H.vi _ _ _ _ _ _ _ _ _) rfl) ?_;refine xo rfl (aT.kR underlying28 H.Jn ([.string (bs [97])::OP (j:Int) a s0 [],.string (bs [98])::OP (m:Int) b s1 []]) rfl rfl (by decide) (by simp<;>repeat' (first|rfl|constructor))) ?_;rintro _ g1 ⟨rfl,hg1⟩;have d1:aq q1 g1:=by rw[hg1];exact Ext.push _ _ _
           have hen:aY eB g1 (fun _=>False) (.slice (some ⟨q1.size,0,none⟩) 2 2) (Cs (j:Int) a s0 (m:Int) b s1):=by
            have:=HJ (h:=q1) (O:=fun _=>False) (x:=(([97],fl (j:Int) a s0):Bd)) (y:=(([98],fl (m:Int) b s1):Bd)) (T:=32) (base:=0) ⟨_,rfl,yW q1 (fun _=>False) j a s0 []⟩ ⟨_,rfl,yW q1 (fun _=>False) m b s1 []⟩ (Nat.zero_le _);rw[hg1];exact this.read (fun _ _ q=>q) (fun _ _ q=>q)
           clear hg1;have p2:=p1.trans d1;have f0g:=f03.trans p2
           have hok:vZ 900000 (Cs (j:Int) a s0 (m:Int) b s1):=⟨by show 2<=900000;decide,fun p hp=>by
            simp only[List.mem_cons,List.not_mem_nil,or_false] at hp
            rcases hp with rfl|rfl<;>exact kL _ _ _ _ (by omega)⟩
           have hE:=vM (O:=fun _=>False) (hg.ah (e03.trans f0g)) hen (fun b q=>q.elim) hok (hnd.mv (Mv.ah p2)) hwt;rw[hev] at hE;refine af ?_;refine xp rfl (bV rfl (k93.ah p2).row) ?_;refine xo rfl (aF rfl hE) ?_;rintro _ g2 ⟨v13,rfl,hv13,d2⟩;have fv:=qe (show cG g2 (fun _=>False) v13 (fl x y t) from hv13);obtain⟨nk,nt,pa,ma,ca,qa,wa,da,rfl⟩:=fv.agg;refine af ?_;refine xo rfl (cm) ?_;rintro _ g3 ⟨rfl,k13,d3,y13⟩;refine aH rfl (aK rfl rfl k13 dX) ?_;rintro _ g4 ⟨rfl,k134,y14,y15⟩;have k134:aC g4 g2.size 30 (iG x y t [] nk nt pa ma ca qa wa da):=k134;have d24:aq g2 g4:=aq.only d3 y14 (Nat.le_refl _);have d14:=d2.trans d24;have p4:=p2.trans d14
           have cB:∀{g:aj},aq g4 g->_:=fun {g} e=>BA (hen.mv (Mv.ah (d14.trans e))) (show 2<=1000 by decide) (fun y hy=>by
            simp only[List.mem_cons,List.not_mem_nil,or_false] at hy
            rcases hy with rfl|rfl<;>exact⟨_,_,_,rfl⟩)
           have cD:∀{g:aj},aq g4 g->_:=fun {g} e=>nH hwt (hnd.mv (Mv.ah (p4.trans e)))
           have k94:=k93.ah p4;have l94:=k94.lt
           iterate 2 refine aZ ?_
           refine cV ?_;refine aR ?_;refine LF 13 (fun b=>Array.size g4<=b) (fun i=>Nat.blt i 13) (fun(z:Nat) (h':aj)=>(aq g4 h'/\PV h' z 41 x y t)) (fun(z:Nat)=>[(16,ptr z),(18,.int .i64 e)]) rfl ?_ ?_
           · refine aG 0 ?_;refine bC 2 rfl (fun h' e=>bV rfl (e.lC k94.row)) ?_
             have same:∀{x' y':Int}{t':By}{e':Int},Bh (lu op (fl (j:Int) a s0) (fl (m:Int) b s1))=(fl x' y' t',e')->x'=x/\y'=y/\t'=t/\e'=e:=fun q=>by
              rw[hfin] at q;simp only[Prod.mk.injEq,Vl.mk.injEq,true_and,and_true] at q;exact⟨q.1.1.symm,q.1.2.1.symm,q.1.2.2.symm,q.2.symm⟩
             have cE:∀{g:aj}{bv dv:Value}{O:Nat->Prop},aY eB g (fun _=>False) bv (Cs (j:Int) a s0 (m:Int) b s1)->cL g O dv (Gy op)->_:=fun {g bv dv O} q1 q2=>Et q1 (q2.mv (Fx (h:=g) (fun _ q=>q.elim) g)) ho ha hb hl0.1 hl0.2
             refine Ls 1 9 rfl rfl (aF rfl ((cB (Ext.refl _ _)))) (cm) ?_ ?_
             · rintro bv u1 ⟨sB,r1⟩;refine⟨fun _=>r1.of,?_⟩;refine Ls 3 9 rfl rfl (aF rfl ((cD r1))) (cm) ?_ ?_
               · rintro dv u2 ⟨r2,hD⟩;refine⟨fun _=>r2.of,?_⟩;have sB2:=sB.mv (Mv.ah r2);refine Ls 4 9 rfl rfl (aF rfl ((cE sB2 hD))) (cm) ?_ ?_
                 · rintro _ u3 ⟨ev,st2,x',y',t',e',rfl,hx',fw,r3⟩;refine⟨fun _=>r3.of,?_⟩;obtain⟨rfl,rfl,rfl,rfl⟩:=same hx';obtain⟨nk',nt',pa',ma',ca',qa',wa',da',rfl⟩:=fw.agg;refine aG 5 ?_;refine aG 6 ?_;refine aG 7 ?_;refine aG 8 ?_;refine cU 9 rfl (cm) ?_;rintro _ u4 ⟨rfl,kn,r4,t4⟩;refine⟨fun _=>r4.of,?_⟩;refine iA 10 rfl (aK rfl rfl kn dX) ?_;rintro _ u9 ⟨rfl,kg,xg,zg⟩;refine⟨fun _=>xg.mono (fun b _ (q:b=u3.size)=>by rw[q];(have:=r1.size;have:=r2.size;have:=r3.size;show g4.size<=u3.size;omega)),?_⟩;refine aG 11 ?_;refine aG 12 ?_;exact DW u3.size ⟨aq.only (((r1.trans r2).trans r3).trans r4) xg (by have:=r1.size;have:=r2.size;have:=r3.size;omega),_,_,_,_,_,_,_,_,kg,fw⟩
                 · rintro _ u3 ⟨rfl,kn,r3,t3⟩;refine⟨fun _=>r3.of,?_⟩;have r3:aq u2 u3:=r3;refine cU 4 rfl (aF rfl ((cE (sB2.mv (Mv.ah r3)) (hD.mv (Mv.ah r3))))) ?_;rintro _ u4 ⟨ev,st2,x',y',t',e',rfl,hx',fw,r4⟩;refine⟨fun _=>r4.of,?_⟩;obtain⟨rfl,rfl,rfl,rfl⟩:=same hx';obtain⟨nk',nt',pa',ma',ca',qa',wa',da',rfl⟩:=fw.agg;refine aG 5 ?_;refine aG 6 ?_;refine aG 7 ?_;refine aG 8 ?_;refine iA 10 rfl (aK rfl rfl ((kn.ah r4)) dX) ?_;rintro _ u9 ⟨rfl,kg,xg,zg⟩;refine⟨fun _=>xg.mono (fun b _ (q:b=u2.size)=>by rw[q];(have:=r1.size;have:=r2.size;show g4.size<=u2.size;omega)),?_⟩;refine aG 11 ?_;refine aG 12 ?_;exact DW u2.size ⟨aq.only (((r1.trans r2).trans r3).trans r4) xg (by have:=r1.size;have:=r2.size;omega),_,_,_,_,_,_,_,_,kg,fw⟩
               · rintro _ u2 ⟨rfl,kn,r2,t2⟩;refine⟨fun _=>r2.of,?_⟩;have r2:aq u1 u2:=r2;refine cU 3 rfl (aF rfl ((cD (r1.trans r2)))) ?_;rintro dv u3 ⟨r3,hD⟩;refine⟨fun _=>r3.of,?_⟩;refine cU 4 rfl (aF rfl ((cE (sB.mv (Mv.ah (r2.trans r3))) hD))) ?_;rintro _ u4 ⟨ev,st2,x',y',t',e',rfl,hx',fw,r4⟩;refine⟨fun _=>r4.of,?_⟩;obtain⟨rfl,rfl,rfl,rfl⟩:=same hx';obtain⟨nk',nt',pa',ma',ca',qa',wa',da',rfl⟩:=fw.agg;refine aG 5 ?_;refine aG 6 ?_;refine aG 7 ?_;refine aG 8 ?_;refine iA 10 rfl (aK rfl rfl (((kn.ah r3).ah r4)) dX) ?_;rintro _ u9 ⟨rfl,kg,xg,zg⟩;refine⟨fun _=>xg.mono (fun b _ (q:b=u1.size)=>by rw[q];(have:=r1.size;show g4.size<=u1.size;omega)),?_⟩;refine aG 11 ?_;refine aG 12 ?_;exact DW u1.size ⟨aq.only (((r1.trans r2).trans r3).trans r4) xg (by have:=r1.size;omega),_,_,_,_,_,_,_,_,kg,fw⟩
             · rintro _ u1 ⟨rfl,kn,r1,t1⟩;refine⟨fun _=>r1.of,?_⟩;have r1:aq g4 u1:=r1;refine cU 1 rfl (aF rfl ((cB r1))) ?_;rintro bv u2 ⟨sB,r2⟩;refine⟨fun _=>r2.of,?_⟩;refine cU 3 rfl (aF rfl ((cD (r1.trans r2)))) ?_;rintro dv u3 ⟨r3,hD⟩;refine⟨fun _=>r3.of,?_⟩;refine cU 4 rfl (aF rfl ((cE (sB.mv (Mv.ah r3)) hD))) ?_;rintro _ u4 ⟨ev,st2,x',y',t',e',rfl,hx',fw,r4⟩;refine⟨fun _=>r4.of,?_⟩;obtain⟨rfl,rfl,rfl,rfl⟩:=same hx';obtain⟨nk',nt',pa',ma',ca',qa',wa',da',rfl⟩:=fw.agg;refine aG 5 ?_;refine aG 6 ?_;refine aG 7 ?_;refine aG 8 ?_;refine iA 10 rfl (aK rfl rfl ((((kn.ah r2).ah r3).ah r4)) dX) ?_;rintro _ u9 ⟨rfl,kg,xg,zg⟩;refine⟨fun _=>xg.mono (fun b _ (q:b=g4.size)=>by rw[q];exact Nat.le_refl _),?_⟩;refine aG 11 ?_;refine aG 12 ?_;exact DW g4.size ⟨aq.only (((r1.trans r2).trans r3).trans r4) xg (Nat.le_refl _),_,_,_,_,_,_,_,_,kg,fw⟩
           · rintro z g5 ⟨d5,nk6,nt6,pa6,ma6,ca6,qa6,wa6,da6,k16,fw⟩;have k135:=k134.ah d5;refine aR ?_;refine J0 (fun(u:Unit) (h':aj)=>aq g5 h') (fun(u:Unit)=>[(87,.bool false)]) rfl ?_ ?_
             · refine xp rfl (bV rfl k135.row) ?_;refine xp rfl (bV rfl k16.row) ?_;refine xo rfl (aF rfl (BJ fv fw)) ?_;rintro _ g6 ⟨rfl,d6⟩;refine af ?_;refine RW.ck (d:=83) (b':=false) rfl (rfl) ?_;refine af ?_;exact lg () d6 ⟨ai rfl (by simp),sb rfl⟩
             · rintro u g6 d6;refine eC rfl (by simp) ?_;refine af ?_;exact ih3 (m+1) ⟨(p4.trans d5).trans d6,by omega⟩
         · refine af ?_;exact ih2 (j+1) ⟨p1,by omega⟩
       · refine af ?_;exact ih1 (i+1) ⟨f03.trans p0,by omega⟩
     · refine af ?_;refine xo rfl (aF rfl (mE (hg.ah (e03.trans f0)))) ?_;rintro _ h4 ⟨rfl,e4⟩;refine af ?_;refine bh ?_;exact⟨_,rfl,rfl,(e03.trans f0).trans e4⟩
end Go.Proofs.YtdgckfkoihcmjaaGreatDoor
