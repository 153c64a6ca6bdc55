/- What the proof of the statement leans on (part 28). -/
import Derived.Lib.SlicesCompact
import Derived.Sort.OwnSorted
import Derived.Test.YtoickfdopobmgaaGreatDoorQza

namespace Go.Proofs.YtoickfdopobmgaaGreatDoor
open Go Go.Lw
set_option maxRecDepth 20000
abbrev wR (x:By):Value:=.string (bs x)
abbrev OM (x y:By):Bool:=decide (x<=y)
theorem DT {h:ai}{base:Nat}{v:Value}{xs:List By}(ho:bN wR h base 9 v xs) (hn:xs≠[]) (hl:xs.length<=1000000) :
    aq Tryz.prog 25 #[v] h (bw fun r h'=>r= .tuple #[]/\bN wR h' base 9 v (xs.mergeSort OM)/\Ext (cv v.ownBlock) h h'):=by
  obtain⟨_,hc⟩:=ho
  rcases hc with ⟨rfl,h0⟩|⟨g,cap,cur,rfl,hb,hg,hnc,hcap,hsz,htk⟩
  · exact absurd (List.eq_nil_iff_length_eq_zero.2 h0) hn
  refine aq.oK fun w hw=>?_
  subst hw;rw[Nat.mul_one] at htk;have hgl:g<w.heap.size:=(Array.getElem?_eq_some_iff.1 hg).1;refine(Tryz.slices_Sort_string g 0 cap xs w (holds_of_block hg htk) hgl (by omega)).mono ?_;rintro e w' ⟨rfl,n,os,rfl⟩;have hgr:=grownBy_sorted (w:=w) (g:=g) (n:=n) (os:=os) (xs.mergeSort OM).toArray;refine⟨_,rfl,⟨rfl,?_,js hgr⟩,hgr.os,hgr.tape,hgr.output⟩;have:=ownsRow_sorted (w:=w) (base:=base) (n:=n) (os:=os) (ss:=xs) (ts:=xs.mergeSort OM) (List.length_mergeSort _) hb hg hnc hcap hsz
  show aB _ _ _ _ _ _ _
  rw[List.length_mergeSort];exact this
end Go.Proofs.YtoickfdopobmgaaGreatDoor
namespace Go.Proofs.YtoickfdopobmgaaGreatDoor
open Go Go.Lw
set_option maxRecDepth 20000 set_option maxHeartbeats 4000000
section
variable {h:ai}{O:Nat->Prop}{b:Nat}{env:List Bd}
theorem yL {α:Type}{K:List α}{i:Nat}{n:α}(h:K[i]? =some n):K.take (i+1)=K.take i++[n]:=by rw[List.take_add_one,h];rfl
theorem uP {α:Type}{K:List α}{i:Nat}{n:α}(h:K[i]? =some n):K=K.take i++n::K.drop (i+1):=by
 obtain⟨h1,h2⟩:=List.getElem?_eq_some_iff.1 h
 conv=>lhs;rw[<-List.take_append_drop i K,List.drop_eq_getElem_cons h1,h2]
section
variable {env E:List Bd}{K:List Tr}{i:Nat}{n:Tr}{o:List By}
theorem take_len (h:K[i]? =some n):(K.take i).length=i:=by rw[List.length_take];exact Nat.min_eq_left (Nat.le_of_lt (List.getElem?_eq_some_iff.1 h).1)
theorem Ij (h:runK env (K.take i) 1= .inr (E,o)) (hn:K[i]? =some n) (he:(cN E n).2.2≠0):runK env K 1= .inl (ic (cN E n).2.2 HD ((i:Int)+1)):=by
 rw[uP hn,jN _ h,take_len hn,runK,if_pos he];dsimp only;rw[show ((1+i:Nat):Int)=(i:Int)+1 by omega]
theorem Gg (h:runK env (K.take i) 1= .inr (E,o)) (hn:K[i]? =some n) (he:(cN E n).2.2=0) (hl:n.kind=7/\n.kids.length=1) (hb:(iR E n.text (cN E n).1).2=false):runK env K 1= .inl (ic 60 HD ((i:Int)+1)):=by
 rw[uP hn,jN _ h,take_len hn,runK,if_neg (fun q=>q he),if_pos hl,if_neg (by rw[hb];decide)];dsimp only;rw[show ((1+i:Nat):Int)=(i:Int)+1 by omega]
theorem Ii (h:runK env (K.take i) 1= .inr (E,o)) (hn:K[i]? =some n) (he:(cN E n).2.2=0) (hl:n.kind=7/\n.kids.length=1) (hb:(iR E n.text (cN E n).1).2=true):runK env (K.take (i+1)) 1= .inr ((iR E n.text (cN E n).1).1,o):=by
 rw[yL hn,jN _ h,runK,if_neg (fun q=>q he),if_pos hl,if_pos hb,runK];dsimp only;rw[List.append_nil]
theorem Gf (h:runK env (K.take i) 1= .inr (E,o)) (hn:K[i]? =some n) (he:(cN E n).2.2=0) (hl:¬(n.kind=7/\n.kids.length=1)):runK env (K.take (i+1)) 1= .inr (E,o++[[61,32]++je (cN E n).1]):=by
 rw[yL hn,jN _ h,runK,if_neg (fun q=>q he),if_neg hl,runK]
end
theorem gF {c:Nat}(k:jz h O b env) (hO:∀y,O y->y<h.size) (I:iD c env) (hc:100<=c) (s:By) (hs:s.length<=500){K:List Tr}{a e:Int}(hP:cy s (dP s).1 (dP s).2.1 K a e)
 (hw:∀n∈K,n.wt<=200000) (hcc:c+4000*K.length<=90000000) :
 aq Tryz.prog 10 #[ptr b,.string (bs s)] h (bw fun r h'=>r= .string (bs (dy env K a e).1)/\jz h' O b (dy env K a e).2/\iD (c+4000*K.length) (dy env K a e).2/\Ext (fun y=>y=b) h h'):=by
 have hbl:=k.lt;have hexv:=k.Rk;have hpos:=D9 hP;have hlen:(dP s).1.length<=s.length:=ox _ _ _ _;have hKs:=vu hP;have hpb:(dP s).1.length*(s.length+2)<=1000000000000:=Nat.le_trans (Nat.mul_le_mul (Nat.le_trans hlen hs) (show s.length+2<=502 by omega)) (by decide);refine bL ?_;refine af ?_;refine xo rfl (aE rfl (iE k)) ?_;rintro _ h ⟨rfl,rfl⟩;refine af ?_;refine fe rfl (by simp) ?_;obtain⟨h0,p,v,⟨g1,g2,g3,g4,g5⟩,hob,kb,hev⟩:=id k;have kx:oC h p:=g2.ah g3;refine af ?_;refine xp rfl (aA rfl (kb.cell (i:=0) rfl)) ?_;refine af ?_;refine xo rfl (aE rfl (En hexv.ex.lx kx s (by omega))) ?_;rintro _ h2 ⟨⟨tv,rfl,htv⟩,e2⟩;refine af ?_;refine xo rfl (cO) ?_;rintro _ h3 ⟨rfl,k6,e3,z3⟩;refine af ?_;refine aM rfl (aY rfl rfl k6 (iG _)) ?_;rintro _ h4 ⟨rfl,k64,x4,z4⟩;have k64:aD h4 h2.size 57 (bU (dP s).2):=k64;have e24:aj h2 h4:=aj.only e3 x4 (Nat.le_refl _);have e04:=e2.trans e24;have hcall:=zZ ((hexv.ah e04).ex.esc) (htv.ah e24) s (dP s).2 hpb (by omega) hP;refine af ?_;refine xp rfl (bY rfl k64.row) ?_;refine xo rfl (aE rfl hcall) ?_;rintro _ h5 ⟨e5,lv,rfl,s5⟩;have e05:=e04.trans e5;have zz:=And.intro e04.size e5.size;have kb5:=kb.ah e05;have x5:=hexv.ah e05;refine af ?_;refine aR (fun he=>?_) (fun he=>?_)
 · have hl:dy env K a e=(ic e QL a,env):=if_pos he;rw[hl];refine af ?_;refine xo rfl (aE rfl ((ny x5.ex.lx.tens e (by omega) QL (by decide) a (by omega)))) ?_;rintro _ h6 ⟨rfl,e6⟩;refine af ?_;refine bp ?_;exact⟨_,rfl,rfl,(k.ah e05).ah e6,I.le (by omega),(e05.trans e6).mono (fun _ _ q=>q.elim)⟩
 · have he0:e=0:=Classical.not_not.1 he;subst he0;have hOm:∀y,(y=b\/O y)->y<h.size:=fun y q=>q.elim (fun q=>by omega) (hO y)
   have s5:aT eN h5 (fun y=>y=b\/O y) lv K:=s5.mv ⟨Nat.le_refl _,fun y _ q=>⟨rfl,fun k=>q (by have:=hOm y k;omega)⟩⟩;obtain⟨la,ln,lc,rfl,hks⟩:=s5.open;have hkn:K.length=ln:=hks.len;subst hkn;have hev5:=hev.mv (Mv.ah e05);refine af ?_;refine xp rfl (aA rfl (kb5.cell (i:=1) rfl)) ?_;refine af ?_;refine gY (σ:=Nat×List Bd×List By×Value×Value) (fun w=>[(10,w.2.2.2.1),(11,w.2.2.2.2),(48,.int .i64 (w.1:Nat))]) (fun w g=>w.1<=K.length/\aj h5 g/\runK env (K.take w.1) 1= .inr (w.2.1,w.2.2.1)/\iD (c+4000*w.1) w.2.1/\aT eB g (fun y=>(y=b\/O y)\/cv w.2.2.2.2.ownBlock y) w.2.2.2.1 w.2.1/\bN wR g h5.size 9 w.2.2.2.2 w.2.2.1/\w.2.2.1.length<=w.1/\∀t∈w.2.2.1,t.length<=500002) (fun w=>K.length-w.1) ((0,env,[],v,.slice none 0 0)) ⟨Nat.zero_le _,Ext.refl _ _,rfl,I.le (Nat.le_add_right _ _),hev5.mv ⟨Nat.le_refl _,fun y _ q=>⟨rfl,fun k=>k.elim q (fun k=>by cases k)⟩⟩,bN.nil _ _ _ _,Nat.le_refl _,fun _ q=>(by cases q)⟩ rfl ?_;rintro⟨i,E,o,ev,ov⟩ g ⟨hi,eg,hrun,hE,hevg,hov,hol,hot⟩ ih
   try dsimp only
   dsimp only at hi hrun hE hevg hov hol hot;have e0g:=e05.trans eg;have zg:=eg.size;have xg:=x5.ah eg;have hown:∀y,ov.ownBlock=some y->h5.size<=y/\y<g.size:=fun y q=>aB.lt hov q
   have hOg:∀y,((y=b\/O y)\/cv ov.ownBlock y)->y<g.size:=fun y q=>q.elim (fun q=>by have:=hOm y q;omega) (fun q=>(hown y q.symm).2)
   refine af ?_;refine aR (fun hlt=>?_) (fun hlt=>?_)
   · have hil:i<K.length:=by omega
     obtain⟨y,hy⟩:∃y,K[i]? =some y:=⟨_,List.getElem?_eq_getElem hil⟩
     have hyw:=hw y (List.mem_of_getElem? hy);obtain⟨nb,no,cs,ha,hnob,hrow,hRn⟩:=hks.get i y hy;obtain⟨yk,yt,yl⟩:=y;obtain⟨w,rfl,hsn⟩:=kO hRn;obtain⟨ya,yn,yc,rfl,hkl⟩:=hsn.open;have hyn:yl.length=yn:=hkl.len;subst hyn
     iterate 4 refine aX ?_
     refine cD ?_;refine aW ?_;refine xp rfl (cz rfl rfl i rfl ha) ?_;refine xp rfl (bY rfl (eg.rowAt (fun k=>k) hrow)) ?_;refine xo rfl (cO) ?_;rintro _ g1 ⟨rfl,k13,f1,y1⟩;refine af ?_;refine aM rfl (aY rfl rfl k13 lq) ?_;rintro _ g2 ⟨rfl,k132,y2,y3⟩;have k132:aD g2 g.size 39 [.int .i64 yk,.string (bs yt),.slice ya yl.length yc]:=k132;have f02:aj g g2:=aj.only f1 y2 (Nat.le_refl _);have hEo:=iD.eval hE (by omega) hyw;have hEv:=E3 (O:=fun y=>(y=b\/O y)\/cv ov.ownBlock y) (xg.ah f02) (hevg.mv (Mv.ah f02)) (fun y q=>by have:=hOg y q;have:=f02.size;omega) ((hE.vE (by omega)).le (by omega)) (eF.of (eN.mv hRn (Mv.cx (eg.trans f02) fun y hy q=>⟨fun k=>k,fun k=>k.elim q (fun k=>by have:=hown y k.symm;omega)⟩))) (by omega);have q1:=Ij hrun hy;have q2:=Gg hrun hy;have q3:=Ii hrun hy;have q4:=Gf hrun hy;have q5:=CX E (.mk yk yt yl);generalize cN E (.mk yk yt yl)=q at hEv hEo q1 q2 q3 q4 q5;obtain⟨x,st,er⟩:=q;dsimp only at hEv hEo q1 q2 q3 q4 q5;refine af ?_;refine xp rfl (bY rfl k132.row) ?_;refine xo rfl (aE rfl hEv) ?_;rintro _ g3 ⟨v14,rfl,hv14,f3⟩;obtain⟨nk,nt,xa,xn,xc,wa,wn,wc,rfl,_,hR14,_⟩:=cW.get hv14;refine af ?_;refine xo rfl (cO) ?_;rintro _ g4 ⟨rfl,k14,f4,y4⟩;refine aM rfl (aY rfl rfl k14 gI) ?_;rintro _ g5 ⟨rfl,k145,y5,y6⟩;have k145:aD g5 g3.size 42 (lG x.kind x.num x.fE x.self nk nt xa xn xc wa wn wc):=k145;have f35:aj g3 g5:=aj.only f4 y5 (Nat.le_refl _);have f05:=f02.trans (f3.trans f35);have k135:=k132.ah (f3.trans f35);have x5g:=xg.ah f05;have e0g5:=e0g.trans f05;have zg5:=f05.size;refine af ?_;refine aR (fun her=>?_) (fun her=>?_)
     · have hl:dy env K a 0=(ic er HD ((i:Int)+1),env):=by unfold dy;rw[if_neg (by simp),(q1 her)]
       rw[hl];refine af ?_;refine xo rfl (aE rfl ((ny x5g.ex.lx.tens er (by omega) HD (by decide) ((i:Int)+1) (by omega)))) ?_;rintro _ g8 ⟨rfl,f8⟩;refine af ?_;refine bp ?_;exact⟨_,rfl,rfl,k.ah ((e0g5).trans f8),I.le (by omega),((e0g5).trans f8).mono (fun _ _ q=>q.elim)⟩
     · have her:=Classical.not_not.1 her;subst her;refine aX ?_;refine fL [(73,.bool (decide (yk=7/\yl.length=1)))] rfl ?_ ?_
       · refine af ?_;refine xp rfl (aA rfl (k135.cell (i:=0) rfl)) ?_;refine af ?_;refine dG 77 (fun p=>?_) (fun p=>?_)
         · have p:=of_decide_eq_true p;refine af ?_;refine xp rfl (aA rfl (k135.cell (i:=2) rfl)) ?_;refine af ?_;exact aF rfl ⟨au rfl (by rw[decide_eq_decide];exact⟨fun q=>⟨p,by omega⟩,fun q=>by omega⟩),sb rfl⟩
         · have p:=of_decide_eq_false p;refine af ?_;exact aF rfl ⟨au rfl (by rw[decide_eq_false (fun q=>p q.1)]),sb rfl⟩
       · refine aR (fun hlet=>?_) (fun hlet=>?_)
         · have hbc:=EL (O:=fun y=>(y=b\/O y)\/cv ov.ownBlock y) (hevg.mv (Mv.ah f05)) (Nat.le_trans hE.len (by decide)) yt (cW.of (eV.mv hR14 (Mv.ah f35)));have q2:(iR E yt x).2=false->_:=q2 rfl hlet;have q3:(iR E yt x).2=true->runK env (K.take (i+1)) 1= .inr ((iR E yt x).1,o):=q3 rfl hlet;have hbI:=fun q=>iD.bind (t:=yt) (hE.le (Nat.le_add_right _ 4000)) hEo.1 hEo.2 q
           generalize iR E yt x=r at hbc hbI q2 q3;obtain⟨E',ok⟩:=r;dsimp only at hbc hbI q2 q3;refine af ?_;refine xp rfl (aA rfl (k135.cell (i:=1) rfl)) ?_;refine xp rfl (bY rfl k145.row) ?_;refine xo rfl (aE rfl hbc) ?_;rintro _ g6 ⟨v',rfl,hox,f6⟩;obtain⟨_,_,hwx,_⟩:=id hox;have hnx:∀y,v'.ownBlock=some y->g5.size<=y:=fun y q=>(hwx.lt q).1
           refine af ?_;refine iM (fun hok=>?_) (fun hok=>?_)
           · have hok:ok=false:=by simpa using hok
             subst hok;have hl:dy env K a 0=(ic 60 HD ((i:Int)+1),env):=by unfold dy;rw[if_neg (by simp),(q2 rfl)]
             rw[hl];refine af ?_;refine xo rfl (aE rfl ((ny (x5g.ah f6).ex.lx.tens 60 (by omega) HD (by decide) ((i:Int)+1) (by omega)))) ?_;rintro _ g8 ⟨rfl,f8⟩;refine af ?_;refine bp ?_;exact⟨_,rfl,rfl,k.ah (((e0g5.trans f6)).trans f8),I.le (by omega),(((e0g5.trans f6)).trans f8).mono (fun _ _ q=>q.elim)⟩
           · have hok:ok=true:=by simpa using hok
             subst hok;refine af ?_;exact ih (i+1,E',o,v',ov) ⟨hil,eg.trans (f05.trans f6),q3 rfl,(by rw[Nat.mul_add,<-Nat.add_assoc];exact hbI rfl),hox.vq (fun y q k=>by have:=hnx y q;have:=hOg y k;omega) (fun y _ k=>k),bN.ah hov (f05.trans f6),(show o.length<=i+1 by omega),hot⟩
         · have q4:=q4 rfl hlet;refine af ?_;refine xp rfl (bY rfl k145.row) ?_;refine xo rfl (aE rfl (tY x5g (cW.of (eV.mv hR14 (Mv.ah f35))) (fun _=>hEo.2.get.1) hEo.2.get.2.1 (Nat.le_trans hEo.2.get.2.2.1 (by decide)))) ?_;rintro _ g6 ⟨rfl,f6⟩;refine xp rfl (ay.aH rfl rfl (by rw[aG];have:=uZ hEo.2;show 2+_<=_;omega)) ?_;rw[show (⟨#[61,32]⟩:ByteArray)++bs (je x)=bs ([61,32]++je x) from br [61,32] _];have f06:=f05.trans f6;have z06:=f06.size;have hov6:=bN.ah hov f06;refine xo rfl (iL [_]) ?_;rintro _ _ ⟨rfl,rfl⟩;refine xo rfl (uH rfl rfl hov6 rfl rfl) ?_;rintro v7 g7 ⟨ho7,hx7,hx7',hv7⟩
           have ho7:bN wR g7 h5.size 9 v7 (o++[[61,32]++je x]):=by
            show aB _ _ _ _ _ _ _
            rw[List.length_append,List.map_append];exact ho7
           have e57:aj h5 g7:=Ext.own (eg.trans f06) hov6 (Nat.le_refl _) hx7;have hev7:aT eB g7 (fun y=>(y=b\/O y)\/cv v7.ownBlock y) ev E:=(hevg.mv (Mv.ah f06)).mv ⟨hx7.size,fun y hy q=>⟨hx7.block y hy (fun k=>q (.inr k)),fun k=>k.elim (fun k=>q (.inl k)) (fun k=>(hv7 y k.symm).elim (fun k=>q (.inr k.symm)) (fun k=>by omega))⟩⟩;refine af ?_;refine fe rfl (by simp) ?_;refine af ?_
           exact ih (i+1,E,o++[[61,32]++je x],ev,v7) ⟨hil,e57,q4,hE.le (by omega),hev7,ho7,(by rw[List.length_append,List.length_singleton];omega),fun t ht=>by
            rcases List.mem_append.1 ht with ht|ht
            · exact hot t ht
            · simp only[List.mem_singleton] at ht;have:=uZ hEo.2;rw[ht,List.length_append];show 2+_<=_;omega⟩ (by show K.length-(i+1)<K.length-i;omega)
   · obtain rfl:i=K.length:=by omega
     rw[List.take_length] at hrun;have hl:dy env K a 0=(dD o,E):=by unfold dy;rw[if_neg (by simp),hrun]
     rw[hl];obtain⟨ea,en,ec,rfl,_⟩:=id hevg.open;refine af ?_;refine aM rfl (mj rfl rfl ((kb.ah e0g))) ?_;rintro _ g6 ⟨rfl,kb6,x6,z6⟩;have kb6:aD g6 b 48 [p,.slice ea en ec]:=kb6;have hov6:bN wR g6 h5.size 9 ov o:=aB.ext x6 hov (fun y q k=>by have:=hown y q;omega);have hjl:=G0 hot;have hjm:(500002+1)*o.length<=(500002+1)*500:=Nat.mul_le_mul_left _ (by omega);refine af ?_;refine xo rfl (aE rfl (CR (O:=fun _=>False) (bN.read (h1:=fun _=>rfl) hov6 (fun _ _ q=>q)) (by omega))) ?_;rintro _ g7 ⟨rfl,f7⟩;refine af ?_;refine bp ?_;have hev7:aT eB g7 (fun y=>y=b\/O y) (.slice ea en ec) E:=(hevg.mv (Mv.cx x6 fun y _ q=>⟨fun(k:y=b)=>q (.inl (.inl k)),q⟩)).mv ⟨f7.size,fun y hy q=>⟨f7.block y hy (fun k=>k),fun k=>q (.inl k)⟩⟩;have E7:Ext (fun y=>y=b) h g7:=((e0g.mono fun _ _ q=>q.elim).trans x6).trans (f7.mono fun _ _ q=>q.elim);exact⟨_,rfl,rfl,⟨h0,p,_,⟨g1,g2,⟨Nat.le_trans g3.size E7.size,fun y hy _=>(E7.block y (Nat.lt_of_lt_of_le hy g3.size) (by omega)).trans (g3.block y hy (fun k=>k))⟩,g4,g5⟩,hob,kb6.ah f7,hev7⟩,hE,E7⟩
theorem yg {base:Nat}{v:Value}{xs:List By}(ho:bN wR h base 9 v xs) (hl:xs.length<=1000000) :
 aq Tryz.prog 25 #[v] h (bw fun r h'=>r= .tuple #[]/\bN wR h' base 9 v (xs.mergeSort OM)/\Ext (cv v.ownBlock) h h'):=by
 cases xs with
 |cons x xs=>exact DT ho (by simp) hl
 |nil =>
  obtain⟨oa,c,hv,_⟩:=aB.open ho;have hv:v= .slice oa 0 c:=hv;subst hv;refine(aq.qQ fun w=>Tryz.slices_Sort_string_none oa c w).ret fun r h' ⟨h1,h2⟩=>?_
  subst h2;exact⟨h1,by rw[List.mergeSort_nil];exact ho,Ext.refl _ _⟩
def qb (env:List Bd):List By:=(env.map Prod.fst).mergeSort OM
theorem kK (k:jz h O b env) (hE:env.length<=100) :
 aq Tryz.prog 13 #[ptr b] h (bw fun r h'=>bN wR h' h.size 9 r (qb env)/\aj h h'):=by
 refine bL ?_;refine af ?_;refine xo rfl (aE rfl (iE k)) ?_;rintro _ h ⟨rfl,rfl⟩;refine af ?_;refine fe rfl (by simp) ?_;obtain⟨h0,p,v,_,_,kb,hev⟩:=id k;obtain⟨ea,en,ec,rfl,hes⟩:=hev.open;have hel:env.length=en:=hes.len;subst hel;refine af ?_;refine xp rfl (aA rfl (kb.cell (i:=1) rfl)) ?_;refine af ?_;refine gY (σ:=Nat×Value) (fun w=>[(3,w.2),(13,.int .i64 (w.1:Nat))]) (fun w g=>w.1<=env.length/\aj h g/\bN wR g h.size 9 w.2 ((env.take w.1).map Prod.fst)) (fun w=>env.length-w.1) ((0,.slice none 0 0)) ⟨Nat.zero_le _,Ext.refl _ _,bN.nil _ _ _ _⟩ rfl ?_;rintro⟨i,ov⟩ g ⟨hi,eg,hov⟩ ih
 try dsimp only
 dsimp only at hi hov;have zg:=eg.size;refine af ?_;refine aR (fun hlt=>?_) (fun hlt=>?_)
 · have hil:i<env.length:=by omega
   obtain⟨nb,no,y,nk,nt,a,m,c',wa,wn,wc,ha,hy,hrow,_⟩:=FU (hes.mv (Mv.ah eg)) hil
   iterate 4 refine aX ?_
   refine cD ?_;refine xp rfl (cz rfl rfl i rfl ha) ?_;refine xp rfl (bY rfl hrow) ?_;refine xo rfl (cO) ?_;rintro _ g1 ⟨rfl,k5,f1,y1⟩;refine aM rfl (aY rfl rfl k5 PZ) ?_;rintro _ g2 ⟨rfl,k52,y2,y3⟩;have k52:aD g2 g.size 52 (BC y nk nt a m c' wa wn wc):=k52;have f02:aj g g2:=aj.only f1 y2 (Nat.le_refl _);have z02:=f02.size;have hov2:=bN.ah hov f02;have hl2:((env.take i).map Prod.fst).length<=100:=by rw[List.length_map,List.length_take];omega
   refine af ?_;refine xp rfl (aA rfl (k52.cell (i:=0) rfl)) ?_;refine xo rfl (iL [_]) ?_;rintro _ _ ⟨rfl,rfl⟩;refine xo rfl (uH rfl rfl hov2 rfl rfl) ?_;rintro v7 g7 ⟨ho7,hx7,hx7',hv7⟩;refine af ?_
   have ho7:bN wR g7 h.size 9 v7 ((env.take (i+1)).map Prod.fst):=by
    show aB _ _ _ _ _ _ _
    rw[List.take_add_one,hy];simp only[Option.toList_some,List.map_append,List.map_cons,List.map_nil,List.length_append,List.length_cons,List.length_nil];exact ho7
   exact ih (i+1,v7) ⟨hil,Ext.own (eg.trans f02) hov2 (Nat.le_refl _) hx7,ho7⟩
 · obtain rfl:i=env.length:=by omega
   rw[List.take_length] at hov;refine af ?_;refine xo rfl (aE rfl (yg hov (by rw[List.length_map];omega))) ?_;rintro _ g1 ⟨rfl,ho1,x1⟩;refine af ?_;refine bp ?_;exact⟨_,rfl,ho1,Ext.own eg hov (Nat.le_refl _) x1⟩
def nu (env:List Bd) (t:By):Vl×Bool:=match env.find? (fun y=>decide (y.1=t)) with
 |some y=>(y.2,true)
 |none=>(iV,false)
theorem JA {t:By}:∀{env:List Bd}{i:Int},Ml t env i->(i<0/\nu env t=(iV,false))\/∃(k:Nat) (y:Bd),i=k/\env[k]? =some y/\nu env t=(y.2,true):=by
 intro env i hi
 rcases hi with ⟨rfl,h⟩|⟨k,y,rfl,hk,hy,hj⟩
 · refine .inl ⟨by decide,?_⟩;unfold nu;rw[List.find?_eq_none.2 fun y hy=>by simpa using h y hy]
 · refine .inr ⟨k,y,rfl,hk,?_⟩;unfold nu;have hkl:=(List.getElem?_eq_some_iff.1 hk).1
   have he:env.find? (fun y=>decide (y.1=t))=some y:=by
    rw[List.find?_eq_some_iff_append];refine⟨by simpa using hy,env.take k,env.drop (k+1),uP hk,fun z hz=>?_⟩;obtain⟨j,hj2⟩:=List.getElem?_of_mem hz;have hjk:j<k:=by have:=(List.getElem?_eq_some_iff.1 hj2).1;rw[List.length_take] at this;omega
    rw[List.getElem?_take_of_lt hjk] at hj2;simpa using hj j z hjk hj2
   rw[he]
theorem MH {o:Nat}{c:Value}{cs:List Value}(k:Lw.rowAt h b o (c::cs)):Lw.rowAt h b (o+1) cs:=fun j v hv=>by
 have:=k (j+1) v hv
 rwa [show o+(j+1)=o+1+j by omega] at this
theorem mH (k:jz h O b env) (t:By) :
 aq Tryz.prog 14 #[ptr b,.string (bs t)] h (bw fun r h'=>∃v,r=packed [v,.bool (nu env t).2]/\cW h' (fun y=>y=b\/O y) v (nu env t).1/\aj h h'):=by
 refine bL ?_;refine af ?_;refine xo rfl (jj) ?_;rintro _ h1 ⟨rfl,k3,e1,z1⟩;refine xo rfl (cO) ?_;rintro _ h2 ⟨rfl,k4,e2,z2⟩;have e12:=e1.trans e2;have k3:aD h2 h.size 9 [.string (bs t)]:=k3.ah e2;have k':=k.ah e12;have zz:=And.intro e1.size e2.size;refine af ?_;refine xo rfl (aE rfl (iE k')) ?_;rintro _ h2 ⟨rfl,rfl⟩;refine af ?_;refine fe rfl (by simp) ?_;obtain⟨h0,p,v,_,_,kb0,hev0⟩:=id k;have kb:=kb0.ah e12;have hev:=hev0.mv (Mv.ah e12);refine af ?_;refine xp rfl (aA rfl (kb.cell (i:=1) rfl)) ?_;refine xp rfl (ay.makeFunc (vs:=[_]) rfl) ?_;refine xo rfl (aE rfl (rq (R2 h.size t) k3 hev)) ?_;rintro _ h3 ⟨⟨i,rfl,hi⟩,e3⟩;have k43:=k4.ah e3;have z3:=e3.size;have e03:=e12.trans e3;obtain⟨oa,on,oc,rfl,hes⟩:=id hev0.open;have hel:env.length=on:=hes.len;subst hel;have hff:=JA hi
 rcases hff with ⟨hneg,hval⟩|⟨n,y,rfl,hy,hval⟩
 · rw[hval];refine af ?_;refine fF rfl (by simpa using hneg) ?_;refine af ?_;refine xp rfl (av (H.dO ) rfl) ?_;refine aM rfl (aY rfl rfl k43) ?_;rintro _ h4 ⟨rfl,k44,x4,z4⟩;refine af ?_;refine ct (cj rfl k44.row (eo cq)) ?_;exact⟨_,rfl,_,rfl,gN _ _,aj.only (e12.trans e3) x4 (by omega)⟩
 · rw[hval];have hnl:=(List.getElem?_eq_some_iff.1 hy).1;obtain⟨nb,no,y',nk,nt,a,m,c',wa,wn,wc,ha,hy',hrow,hR⟩:=FU hes hnl;rw[hy] at hy';cases hy';have hrow:=MH (e03.rowAt (fun k=>k) hrow);refine af ?_;refine fe rfl (by simp) ?_;refine af ?_;refine xp rfl (aA rfl ((kb.ah e3).cell (i:=1) rfl)) ?_;refine aW ?_;refine xp rfl (cz rfl rfl n rfl ha) ?_;refine af ?_;refine xp rfl (bY rfl hrow) ?_;refine aM rfl (aY rfl rfl k43 gI) ?_;rintro _ h4 ⟨rfl,k44,x4,z4⟩;refine af ?_;refine ct (cj rfl k44.row (eo cq)) ?_;have E:=aj.only e03 x4 (show h.size<=h1.size by omega);exact⟨_,rfl,_,rfl,cW.of (eV.mv hR (Mv.ah E)),E⟩
theorem wV (k:jz h O b env) (hO:∀y,O y->y<h.size) (hE:env.length<=100) :
 aq Tryz.prog 8 #[ptr b] h (bw fun r h'=>∃b2,r=ptr b2/\h.size<=b2/\jz h' (fun y=>y=b\/O y) b2 env/\aj h h'):=by
 have hbl:=k.lt;refine bL ?_;refine af ?_;refine xo rfl (aE rfl (iE k)) ?_;rintro _ h ⟨rfl,rfl⟩;refine af ?_;refine fe rfl (by simp) ?_;obtain⟨h0,p,v,⟨g1,g2,g3,g4,g5⟩,hob,kb,hev⟩:=id k;obtain⟨lb,vm,rfl,_⟩:=id g2;refine af ?_;refine LR 12 12 ?_;refine aI 0 ?_;refine aI 1 ?_;refine aI 2 ?_;refine bI 3 rfl (fun h' e=>aA rfl (e.old (kb.cell (i:=0) rfl))) ?_;refine aI 4 ?_;refine aI 5 ?_;refine aI 6 ?_;refine bI 7 rfl (fun h' e=>aA rfl (e.old (kb.cell (i:=1) rfl))) ?_;refine dH 8 rfl (aE rfl (gS hev (by omega))) ?_;rintro v13 h2 ⟨ho,e2⟩;refine⟨fun _=>e2.of,?_⟩
 obtain⟨ca,cn,cc,rfl⟩:∃ca cn cc,v13= .slice ca cn cc:=by
  obtain⟨css,_,hwx,_⟩:=id ho;obtain⟨oa,c,q,_⟩:=hwx.open;exact⟨_,_,_,q⟩
 refine bI 9 rfl (fun h' e=>av (H.J5 _ _ _ _) rfl) ?_;refine dH 10 rfl (jj) ?_;rintro _ h3 ⟨rfl,k3,e3,z3⟩;refine⟨fun _=>e3.of,?_⟩;refine aI 11 ?_;refine iT ?_;refine bp ?_;have z2:=e2.size;have hw:∀y,(Value.slice ca cn cc).ownBlock=some y->h.size<=y/\y<h2.size:=fun y q=>by obtain⟨_,_,hwx,_⟩:=id ho;exact hwx.lt q
 refine⟨_,rfl,_,rfl,z2,⟨h0,_,_,⟨g1,g2,g3.trans (e2.trans e3),(by omega),fun y q=>q.elim (fun q=>by omega) (g5 y)⟩,fun q=>q.elim (fun q=>by omega) (fun q=>by have:=hO _ q;omega),k3,?_⟩,e2.trans e3⟩;exact(ho.vq (O':=fun y=>y=h2.size\/(y=b\/O y)) (fun y q k=>by have:=hw y q;exact k.elim (fun k=>by omega) (fun k=>k.elim (fun k=>by omega) (fun k=>by have:=hO y k;omega))) (fun y hy k=>k.elim (fun k=>by omega) id)).mv (Mv.ah e3)
end
end Go.Proofs.YtoickfdopobmgaaGreatDoor
namespace Go.Proofs.YtoickfdopobmgaaGreatDoor
open Go.Proofs.Tryz
open Go Go.Lw Go.ChangeShapes Go.WideShapes Go.ChangeAt Go.RowKit
set_option maxRecDepth 20000 set_option maxHeartbeats 4000000
section
variable {xs:List By}{h:ai}{v:Value}{n:Int}
theorem zC (h:ai) (s:By):aq Tryz.prog 11 #[.string (bs s)] h (bw fun r h'=>r= .bool (gQ s)/\h'=h):=by
 have hs:=aG s;refine bL ?_;refine aX ?_;refine cD ?_;refine aW ?_;refine cX ?_;refine aX ?_;refine fL [(2,.bool (gQ s))] rfl ?_ ?_
 · refine af ?_;refine dG 6 (fun q=>?_) (fun q=>?_)
   · have q:=of_decide_eq_true q;have hs6:6<s.length:=by omega
     refine af ?_;refine xp rfl (ay.DW underlying9 rfl rfl 6 rfl (show 6<=(bs s).size by omega)) ?_;rw[Bg s 0 6 (by omega)];refine af ?_
     have hw:decide (bs ((s.take 6).drop 0)=(⟨#[101,114,114,111,114,32]⟩:ByteArray))=gQ s:=by
      unfold gQ;rw[decide_eq_true hs6,Bool.true_and,decide_eq_decide];exact⟨fun q=>bl (m:=EA) q,fun q=>by rw[List.drop_zero,q];rfl⟩
     exact aF rfl ⟨au rfl (hw),sb rfl⟩
   · have q:=of_decide_eq_false q;refine af ?_;exact aF rfl ⟨au rfl (by unfold gQ;rw[decide_eq_false (show ¬6<s.length by omega),Bool.false_and]),sb rfl⟩
 · refine bp ?_;exact⟨_,rfl,rfl,rfl⟩
def sv (xs:List By) (most:Int):Bool:=xs.any (fun x=>decide (150<x.length)) ||decide (most<xs.length)
theorem Jy {m:Int}(h:sv xs m=false):(∀x∈xs,x.length<=150)/\(xs.length:Int)<=m:=by
 unfold sv at h;rw[Bool.or_eq_false_iff] at h;refine⟨fun x hx=>Nat.not_lt.1 fun q=>?_,Int.not_lt.1 (of_decide_eq_false h.2)⟩;have:=List.any_eq_false.1 h.1 x hx;simp only[decide_eq_true_eq] at this;exact this q
theorem CS {O:Nat->Prop}(most:Int) (hv:aT NN h O v xs) :
 aq Tryz.prog 4 #[v,.int .i64 most] h (bw fun r h'=>r= .bool (sv xs most)/\h'=h):=by
 obtain⟨va,vn,vc,rfl,hvs⟩:=hv.open;have hxl:xs.length=vn:=hvs.len;have hvm:=hvs.cap;have hvc:=hvs.le;simp only[maxLen] at hvm;refine bL ?_;refine af ?_;refine gY (σ:=Nat) (fun i=>[(5,.int .i64 (i:Nat))]) (fun i h'=>h'=h/\i<=vn/\(xs.take i).any (fun x=>decide (150<x.length))=false) (fun i=>vn-i) (0) ⟨rfl,Nat.zero_le _,by simp⟩ rfl ?_;rintro i g ⟨rfl,hi,hin⟩ ih;refine af ?_;refine aR (fun hlt=>?_) (fun hlt=>?_)
 · have hlt':i<vn:=by omega
   obtain⟨b,o,x,ha,_,hx,hc⟩:=hvs.at hlt';have hz:=aG x
   iterate 4 refine aX ?_
   refine cD ?_
   iterate 2 refine aW ?_
   refine xp rfl (cz rfl rfl i rfl ha) ?_;refine xp rfl (aA rfl hc) ?_;refine af ?_;refine aR (fun hg=>?_) (fun hg=>?_)
   · refine af ?_;refine bp ?_;have:xs.any (fun x=>decide (150<x.length))=true:=List.any_eq_true.2 ⟨x,List.mem_of_getElem? hx,decide_eq_true (by omega)⟩;exact⟨_,rfl,by unfold sv;rw[this];rfl,rfl⟩
   · refine af ?_;exact ih (i+1) ⟨rfl,by omega,by rw[List.take_add_one,hx,List.any_append,hin];simp;omega⟩
 · have hie:xs.take i=xs:=List.take_of_length_le (by omega);rw[hie] at hin;refine af ?_;refine bp ?_;exact⟨_,rfl,by unfold sv;rw[hin,Bool.false_or,hxl];rfl,rfl⟩
theorem sZ {w:Value}{O O':Nat->Prop}{ys:List By}(hv:aT NN h O v xs) (hw:aT NN h O' w ys) :
 aq Tryz.prog 12 #[v,w] h (bw fun r h'=>r= .bool (decide (xs=ys))/\h'=h):=by
 obtain⟨va,vn,vc,rfl,hvs⟩:=hv.open;obtain⟨wa,wn,wc,rfl,hws⟩:=hw.open;have hxl:xs.length=vn:=hvs.len;have hyl:ys.length=wn:=hws.len;have hvc:=hvs.le;have hvm:=hvs.cap;simp only[maxLen] at hvm;refine bL ?_;refine af ?_;refine aR (fun hne=>?_) (fun hne=>?_)
 · refine af ?_;refine bp ?_;rw[decide_eq_false (fun k:xs=ys=>hne (by rw[<-hxl,<-hyl,k]))];exact⟨_,rfl,rfl,rfl⟩
 · have hnn:vn=wn:=by omega
   refine af ?_;refine gY (σ:=Nat) (fun i=>[(5,.int .i64 (i:Nat))]) (fun i h'=>h'=h/\i<=vn/\∀j,j<i->xs[j]? =ys[j]?) (fun i=>vn-i) (0) ⟨rfl,Nat.zero_le _,fun j hj=>by omega⟩ rfl ?_;rintro i g ⟨rfl,hi,hin⟩ ih;refine af ?_;refine aR (fun hlt=>?_) (fun hlt=>?_)
   · have hlt':i<vn:=by omega
     obtain⟨b1,o1,x,ha,_,hx,hc⟩:=hvs.at hlt';obtain⟨b2,o2,y,hb,_,hy,hc2⟩:=hws.at (i:=i) (by omega)
     iterate 4 refine aX ?_
     refine F4 ?_
     iterate 2 refine ud ?_
     refine cG rfl (cz rfl rfl i rfl ha) ?_;refine cG rfl (aA rfl hc) ?_
     iterate 2 refine ud ?_
     refine cG rfl (cz rfl rfl i rfl hb) ?_;refine cG rfl (aA rfl hc2) ?_;refine af ?_;refine aR (fun hk=>?_) (fun hk=>?_)
     · have hk':¬x=y:=fun q=>hk (by rw[q])
       refine af ?_;refine bp ?_;rw[decide_eq_false (fun k:xs=ys=>hk' (by rw[k,hy] at hx;exact(Option.some.inj hx).symm))];exact⟨_,rfl,rfl,rfl⟩
     · have hk':x=y:=bl (Classical.not_not.1 hk);subst hk';refine af ?_;exact ih (i+1) ⟨rfl,by omega,fun j hj=>by rcases Nat.lt_or_ge j i with q|q;exact hin j q;obtain rfl:j=i:=(by omega);rw[hx,hy]⟩
   · obtain rfl:i=vn:=by omega
     refine af ?_;refine bp ?_
     rw[decide_eq_true (show xs=ys from List.ext_getElem? fun j=>by
      rcases Nat.lt_or_ge j i with q|q
      · exact hin j q
      · rw[List.getElem?_eq_none (by omega),List.getElem?_eq_none (by omega)])]
     exact⟨_,rfl,rfl,rfl⟩
abbrev Gs:=Int×Int×Int×Int
def zK (p:Gs):List Value:=[.int .u8 p.1,.int .u8 p.2.1,.int .u8 p.2.2.1,.int .u8 p.2.2.2]
theorem Jx (p:Gs):∀v∈zK p,v.oneCell'=true:=fun v hv=>by simp[zK] at hv;rcases hv with rfl|rfl|rfl|rfl<;>rfl
abbrev Ro:fQ Gs:=.record 4 (by decide) zK (fun _=>rfl) Jx
def Hx (x:Gs):Prop:=(0<=x.1/\x.1<=255)/\(0<=x.2.1/\x.2.1<=255)/\(0<=x.2.2.1/\x.2.2.1<=255)/\(0<=x.2.2.2/\x.2.2.2<=255)
theorem JH:Tryz.prog.underlying 30=some (.struct (Tryz.prog.fieldsOf 30)):=by kernel_rfl
theorem Cc {H:Type}{enc:TypeId×Value->H}{W:World}{base:Nat}{d:DataW H}{p:List MemPlace}(hv:Value.okWide Tryz.prog W .any base 23 v) (h:DataW.Trod enc Tryz.prog W 0 (fun _=>true) true 23 v d p) :
 ∃l:List Gs,aT Ro W.heap (fun _=>False) v l/\∀x∈l,Hx x:=by
 exact Gx (Q:=Hx) (pos:=(by decide:0<4)) (hl:=fun a=>(rfl:(zK a).length=4)) (h1:=Jx) (fs:=Tryz.prog.fieldsOf 30) underlying23 JH (Deep.hone_of (by kernel_rfl)) (by kernel_rfl) rfl (fun cs n hl hf=>by
  match cs,hl with
  | [c0,c1,c2,c3],_ =>
   obtain⟨y0,h0⟩:=hf 0 _ c0 rfl rfl;obtain⟨y1,h1⟩:=hf 1 _ c1 rfl rfl;obtain⟨y2,h2⟩:=hf 2 _ c2 rfl rfl;obtain⟨y3,h3⟩:=hf 3 _ c3 rfl rfl;obtain⟨n0,e0,_,w0⟩:=DataW.trod_int underlying5 h0;obtain⟨n1,e1,_,w1⟩:=DataW.trod_int underlying5 h1;obtain⟨n2,e2,_,w2⟩:=DataW.trod_int underlying5 h2;obtain⟨n3,e3,_,w3⟩:=DataW.trod_int underlying5 h3;simp at e0 e1 e2 e3;subst e0 e1 e2 e3;refine⟨(n0,n1,n2,n3),rfl,?_⟩;unfold Hx;simpa [Lit.wf,IntKind.min,IntKind.max,IntKind.signed,IntKind.bits] using And.intro w0 (And.intro w1 (And.intro w2 w3))) hv h
theorem NY (h:0<=n/\n<=255):IntKind.u8.wrap n=((UInt8.ofNat n.toNat).toNat:Int):=by
 have h8:IntKind.u8.wrap n=n%256:=by
  simp only[IntKind.wrap,IntKind.bits,IntKind.signed,Bool.false_and];rfl
 rw[h8,UInt8.toNat_ofNat'];omega
def mC (p:Gs):Sm:=⟨(p.2.2.1%6).toNat,UInt8.ofNat (97+p.1.tmod 4).toNat,UInt8.ofNat (97+p.2.1.tmod 4).toNat,UInt8.ofNat (48+(p.2.2.2 / 10).tmod 10).toNat,UInt8.ofNat (48+p.2.2.2.tmod 10).toNat⟩
theorem QC (h:0<=n):(UInt8.ofNat (97+n.tmod 4).toNat=97\/UInt8.ofNat (97+n.tmod 4).toNat=98\/UInt8.ofNat (97+n.tmod 4).toNat=99\/UInt8.ofNat (97+n.tmod 4).toNat=100):=by
 rw[Int.tmod_eq_emod_of_nonneg h];have:n%4=0\/n%4=1\/n%4=2\/n%4=3:=by omega
 rcases this with q|q|q|q<;>rw[q]<;>decide
theorem OU (h:0<=n):dz (UInt8.ofNat (48+n.tmod 10).toNat)=true:=by
 rw[Int.tmod_eq_emod_of_nonneg h];have:n%10=0\/n%10=1\/n%10=2\/n%10=3\/n%10=4\/n%10=5\/n%10=6\/n%10=7\/n%10=8\/n%10=9:=by omega
 rcases this with q|q|q|q|q|q|q|q|q|q<;>rw[q]<;>rfl
theorem Il {p:Gs}(h:Hx p):(mC p).Ok:=by
 obtain⟨⟨h1,_⟩,⟨h2,_⟩,⟨h3,_⟩,h4,_⟩:=h;exact⟨by show (p.2.2.1%6).toNat<6;omega,QC h1,QC h2,OU (by omega),OU h4⟩
theorem HS {T:TypeId}(c d:UInt8):aT .byte (h.push (.cells #[.int .u8 c.toNat,.int .u8 d.toNat] T)) (fun _=>False) (.slice (some ⟨h.size,0,none⟩) 2 2) [c,d] :=
 Dv.read (ku sy h T [c,d] 2 rfl (by decide) 0 (Nat.zero_le _) rfl) (fun _ _ k=>k)
theorem mw {p:Gs}(hp:Hx p) :
 aq Tryz.prog 9 #[.agg (zK p).toArray] h (bw fun r h'=>r= .string (bs (mC p).text)/\aj h h'):=by
 obtain⟨⟨a1,a2⟩,⟨b1,b2⟩,⟨c1,c2⟩,d1,d2⟩:=id hp;have m1:0<=p.1.tmod 4/\p.1.tmod 4<4:=by rw[Int.tmod_eq_emod_of_nonneg a1];omega
 have m2:0<=p.2.1.tmod 4/\p.2.1.tmod 4<4:=by rw[Int.tmod_eq_emod_of_nonneg b1];omega
 have m4:0<=p.2.2.2.tmod 10/\p.2.2.2.tmod 10<10:=by rw[Int.tmod_eq_emod_of_nonneg d1];omega
 have hq:IntKind.u8.wrap (p.2.2.2.tdiv 10)=p.2.2.2 / 10:=by
  rw[Int.tdiv_eq_ediv_of_nonneg d1,NY (by omega),UInt8.toNat_ofNat'];omega
 have m3:0<=(p.2.2.2 / 10).tmod 10/\(p.2.2.2 / 10).tmod 10<10:=by rw[Int.tmod_eq_emod_of_nonneg (by omega)];omega
 have w1:IntKind.u8.wrap (97+p.1.tmod 4)=((mC p).a.toNat:Int):=NY (by omega);have w2:IntKind.u8.wrap (97+p.2.1.tmod 4)=((mC p).b.toNat:Int):=NY (by omega);have w3:IntKind.u8.wrap (48+(p.2.2.2 / 10).tmod 10)=((mC p).c.toNat:Int):=NY (by omega);have w4:IntKind.u8.wrap (48+p.2.2.2.tmod 10)=((mC p).d.toNat:Int):=NY (by omega)
 have wh:p.2.2.1.tmod 6=((mC p).how:Int):=by
  rw[Int.tmod_eq_emod_of_nonneg c1];show _=(((p.2.2.1%6).toNat:Nat):Int);omega
 have h6:(mC p).how<6:=(Il hp).1;generalize hx:mC p=x at *;refine bL ?_;refine af ?_;refine xo rfl (jj) ?_;rintro _ h1 ⟨rfl,k1,e1,z1⟩;have k1:aD h1 h.size 30 (zK p):=k1;refine aW ?_;refine cX ?_;refine aX ?_;refine NV 14 (fun _=>False) (fun i=>Nat.blt i 14) (fun(q:Unit) (h':ai)=>aj h1 h') (fun(q:Unit)=>[(3,.string (bs [x.a])),(4,.string (bs [x.b]))]) rfl ?_ ?_
 · refine aI 0 ?_;refine bI 1 rfl (fun h' e=>aA rfl (e.cell (fun k=>k) (k1.cell (i:=0) rfl))) ?_;refine bI 2 rfl (fun h' e=>kT rfl rfl (by decide)) ?_;refine bI 3 rfl (fun h' e=>ay.add rfl rfl) ?_;refine aI 6 ?_;refine bI 7 rfl (fun h' e=>aA rfl (e.cell (fun k=>k) (k1.cell (i:=1) rfl))) ?_;refine bI 8 rfl (fun h' e=>kT rfl rfl (by decide)) ?_;refine bI 9 rfl (fun h' e=>ay.add rfl rfl) ?_;refine Qc 4 10 rfl rfl (iL [_]) (iL [_]) ?_ ?_
   · rintro _ w1' ⟨rfl,hw1⟩;refine⟨fun _=>by rw[hw1];exact Ext.push _ _ _,?_⟩;have x1:aj h1 w1':=by rw[hw1];exact Ext.push _ _ _
     have s1:aT .byte w1' (fun _=>False) (.slice (some ⟨h1.size,0,none⟩) 1 1) [x.a]:=by rw[hw1];have:=lY (h:=h1) (T:=5) x.a;rw[<-w1] at this;exact this
     refine bI 5 rfl (fun h' e=>Mo rfl (s1.ah e)) ?_;refine aI 12 ?_;refine dH 10 rfl (iL [_]) ?_;rintro _ w2' ⟨rfl,hw2⟩;refine⟨fun _=>by rw[hw2];exact Ext.push _ _ _,?_⟩;have x2:aj w1' w2':=by rw[hw2];exact Ext.push _ _ _
     have s2:aT .byte w2' (fun _=>False) (.slice (some ⟨w1'.size,0,none⟩) 1 1) [x.b]:=by rw[hw2];have:=lY (h:=w1') (T:=5) x.b;rw[<-w2] at this;exact this
     refine bI 11 rfl (fun h' e=>Mo rfl (s2.ah e)) ?_;refine aI 13 ?_;exact Mp () (x1.trans x2)
   · rintro _ w1' ⟨rfl,hw1⟩;refine⟨fun _=>by rw[hw1];exact Ext.push _ _ _,?_⟩;have x1:aj h1 w1':=by rw[hw1];exact Ext.push _ _ _
     have s1:aT .byte w1' (fun _=>False) (.slice (some ⟨h1.size,0,none⟩) 1 1) [x.b]:=by rw[hw1];have:=lY (h:=h1) (T:=5) x.b;rw[<-w2] at this;exact this
     refine bI 11 rfl (fun h' e=>Mo rfl (s1.ah e)) ?_;refine dH 4 rfl (iL [_]) ?_;rintro _ w2' ⟨rfl,hw2⟩;refine⟨fun _=>by rw[hw2];exact Ext.push _ _ _,?_⟩;have x2:aj w1' w2':=by rw[hw2];exact Ext.push _ _ _
     have s2:aT .byte w2' (fun _=>False) (.slice (some ⟨w1'.size,0,none⟩) 1 1) [x.a]:=by rw[hw2];have:=lY (h:=w1') (T:=5) x.a;rw[<-w1] at this;exact this
     refine bI 5 rfl (fun h' e=>Mo rfl (s2.ah e)) ?_;refine aI 12 ?_;refine aI 13 ?_;exact Mp () (x1.trans x2)
 · rintro _ h2 e2;have k2:=k1.ah e2;refine af ?_;refine xp rfl (aA rfl (k2.cell (i:=3) rfl)) ?_;refine xp rfl (kU rfl rfl (by decide)) ?_;refine xp rfl (kT rfl rfl (by decide)) ?_;refine xp rfl (ay.add rfl rfl) ?_;refine af ?_;refine xp rfl (aA rfl (k2.cell (i:=3) rfl)) ?_;refine xp rfl (kT rfl rfl (by decide)) ?_;refine xp rfl (ay.add rfl rfl) ?_;refine xo rfl (iL [_,_]) ?_;rintro _ h3 ⟨rfl,hw3⟩;have e3:aj h2 h3:=by rw[hw3];exact Ext.push _ _ _
   have s3:aT .byte h3 (fun _=>False) (.slice (some ⟨h2.size,0,none⟩) 2 2) [x.c,x.d]:=by rw[hw3,hq];have:=HS (h:=h2) (T:=5) x.c x.d;rw[<-w3,<-w4] at this;exact this
   refine xp rfl (Mo rfl s3) ?_;have z1:(bs [x.a]).size=1:=rfl;have z2:(bs [x.b]).size=1:=rfl;have z3:(⟨#[x.c,x.d]⟩:ByteArray).size=2:=rfl;have c4:(⟨#[108,101,116,32]⟩:ByteArray).size=4:=rfl;have c3:(⟨#[32,61,32]⟩:ByteArray).size=3:=rfl;have c5:(⟨#[32,43,32]⟩:ByteArray).size=3:=rfl;have c6:(⟨#[32,42,32]⟩:ByteArray).size=3:=rfl;have c7:(⟨#[32,45,32]⟩:ByteArray).size=3:=rfl;have c8:(⟨#[32,61,32,102,117,110,32,120,32,45,62,32,120,32,43,32]⟩:ByteArray).size=16:=rfl;have c9:(⟨#[40]⟩:ByteArray).size=1:=rfl;have c0:(⟨#[41]⟩:ByteArray).size=1:=rfl;refine aW ?_;refine cX ?_;refine aX ?_;refine cD ?_;refine aW ?_;refine xp rfl (ay.aH rfl rfl (by (try simp only[ByteArray.size_append]);omega)) ?_;refine xp rfl (ay.aH rfl rfl (by (try simp only[ByteArray.size_append]);omega)) ?_;refine aW ?_;refine xp rfl (ay.aH rfl rfl (by (try simp only[ByteArray.size_append]);omega)) ?_;refine aW ?_;refine xp rfl (ay.aH rfl rfl (by (try simp only[ByteArray.size_append]);omega)) ?_;refine xp rfl (ay.aH rfl rfl (by (try simp only[ByteArray.size_append]);omega)) ?_;refine aW ?_;refine xp rfl (ay.aH rfl rfl (by (try simp only[ByteArray.size_append]);omega)) ?_;refine xp rfl (ay.aH rfl rfl (by (try simp only[ByteArray.size_append]);omega)) ?_;refine aW ?_;refine xp rfl (ay.aH rfl rfl (by (try simp only[ByteArray.size_append]);omega)) ?_
   iterate 2 refine aW ?_
   refine xp rfl (ay.aH rfl rfl (by (try simp only[ByteArray.size_append]);omega)) ?_;refine aW ?_;refine xp rfl (ay.aH rfl rfl (by (try simp only[ByteArray.size_append]);omega)) ?_;refine xp rfl (ay.aH rfl rfl (by (try simp only[ByteArray.size_append]);omega)) ?_;refine aW ?_;refine xp rfl (ay.aH rfl rfl (by (try simp only[ByteArray.size_append]);omega)) ?_;refine aW ?_;refine xp rfl (ay.aH rfl rfl (by (try simp only[ByteArray.size_append]);omega)) ?_;refine xp rfl (ay.aH rfl rfl (by (try simp only[ByteArray.size_append]);omega)) ?_;refine aW ?_;refine xp rfl (ay.aH rfl rfl (by (try simp only[ByteArray.size_append]);omega)) ?_;refine aW ?_;refine xp rfl (ay.aH rfl rfl (by (try simp only[ByteArray.size_append]);omega)) ?_;refine aW ?_;refine xp rfl (ay.aH rfl rfl (by (try simp only[ByteArray.size_append]);omega)) ?_;refine xp rfl (ay.aH rfl rfl (by (try simp only[ByteArray.size_append]);omega)) ?_;refine xp rfl (av (H.sD _ _ _ _ _ _) rfl) ?_;refine xo rfl (cO) ?_;rintro _ h4 ⟨rfl,k4,e4,y4⟩;refine aM rfl (aY rfl rfl k4) ?_;rintro _ h5 ⟨rfl,k5,x5,y5⟩;have e5:aj h h5:=aj.only (e1.trans (e2.trans (e3.trans e4))) x5 (by have:=e1.size;have:=e2.size;have:=e3.size;omega);refine af ?_;refine xp rfl (aA rfl ((k2.ah (e3.trans (aj.only e4 x5 (Nat.le_refl _)))).cell (i:=2) rfl)) ?_;refine xp rfl (kT rfl rfl (by decide)) ?_
   have hj:([.string ((⟨#[108,101,116,32]⟩:ByteArray)++bs [x.a]++(⟨#[32,61,32]⟩:ByteArray)++(⟨#[x.c,x.d]⟩:ByteArray)),.string ((⟨#[108,101,116,32]⟩:ByteArray)++bs [x.a]++(⟨#[32,61,32]⟩:ByteArray)++bs [x.b]++(⟨#[32,43,32]⟩:ByteArray)++(⟨#[x.c,x.d]⟩:ByteArray)),.string (bs [x.a]),.string (bs [x.a]++(⟨#[32,42,32]⟩:ByteArray)++bs [x.b]++(⟨#[32,45,32]⟩:ByteArray)++(⟨#[x.c,x.d]⟩:ByteArray)),.string ((⟨#[108,101,116,32]⟩:ByteArray)++bs [x.a]++(⟨#[32,61,32,102,117,110,32,120,32,45,62,32,120,32,43,32]⟩:ByteArray)++bs [x.b]),.string (bs [x.a]++(⟨#[40]⟩:ByteArray)++bs [x.b]++(⟨#[41]⟩:ByteArray))]:List Value)[x.how]? =some (.string (bs x.text)):=by
    unfold Sm.text;have hc:x.how=0\/x.how=1\/x.how=2\/x.how=3\/x.how=4\/x.how=5:=by omega
    rcases hc with q|q|q|q|q|q<;>rw[q]<;>rfl
   have hcell:cellAt h5 ⟨h3.size,0+x.how*1,none⟩=some (.string (bs x.text)):=by rw[Nat.zero_add,Nat.mul_one];exact k5.cell (i:=x.how) hj
   rw[wh];refine xp rfl (zW rfl rfl x.how rfl h6) ?_;refine xp rfl (aA rfl hcell) ?_;refine af ?_;refine bp ?_;exact⟨_,rfl,rfl,e5⟩
end
end Go.Proofs.YtoickfdopobmgaaGreatDoor
namespace Go.Proofs.YtoickfdopobmgaaGreatDoor
open Go Go.Lw
set_option maxRecDepth 20000 set_option maxHeartbeats 4000000
theorem MA {env:List Bd}(h:HB env) (t:By):mz (nu env t).1:=by
 unfold nu;split
 · next y hy=>exact h y (List.mem_of_find?_eq_some hy)
 · exact ew
theorem Fk {g:ai}(x:E2 g){O:Nat->Prop}{w:Value}{v:Vl}(hw:cW g O w v) (h:mz v):aq Tryz.prog 16 #[w] g (bw fun r h'=>r= .string (bs (je v))/\aj g h') :=
 tY x hw (fun _=>h.get.1) h.get.2.1 (Nat.le_trans h.get.2.2.1 (by decide))
theorem s8 {h:ai}{O:Nat->Prop}{b c:Nat}{env:List Bd}(k:jz h O b env) (hO:∀y,O y->y<h.size) (I:iD c env) (hc:100<=c) (s:By) (hs:s.length<=500){K:List Tr}{a e:Int}(hP:cy s (dP s).1 (dP s).2.1 K a e)
 (hw:∀n∈K,n.wt<=200000) (hcc:c+4000*K.length<=90000000) :
 aq Tryz.prog 7 #[ptr b,.string (bs s)] h (bw fun r h'=>r= .bool true/\jz h' O b (dy env K a e).2/\iD (c+4000*K.length) (dy env K a e).2/\Ext (fun y=>y=b) h h'):=by
 have hbl:=k.lt;refine bL ?_;refine af ?_;refine xo rfl (aE rfl (wV k hO I.len)) ?_;rintro _ h1 ⟨b2,rfl,hb2,kc,e1⟩;have k1:=k.ah e1;have z1:=e1.size;refine af ?_;refine xo rfl (aE rfl (kK k1 I.len)) ?_;rintro v6 h2 ⟨hn,e2⟩;have z2:=e2.size;have k2:=k1.ah e2;have e02:=e1.trans e2;obtain⟨na,nc,hv6,_⟩:=aB.open hn;have hv6:v6= .slice na (qb env).length nc:=hv6;subst hv6;refine af ?_;refine xo rfl (aE rfl (gF k2 (fun y q=>Nat.lt_of_lt_of_le (hO y q) e02.size) I hc s hs hP hw hcc)) ?_;rintro _ h3 ⟨rfl,k3,I3,x3⟩;refine xo rfl (aE rfl (zC h3 _)) ?_;rintro _ h3 ⟨rfl,rfl⟩;refine af ?_;have x03:Ext (fun y=>y=b) h h3:=(aj.of e02).trans x3;refine iM (fun hwr=>?_) (fun hwr=>?_)
 · refine af ?_;refine bp ?_;exact⟨_,rfl,rfl,k3,I3,x03⟩
 · have hwr:gQ (dy env K a e).1=true:=by simpa using hwr
   have hst:=yS hwr;rw[hst] at k3 I3 ⊢;have z3:=x3.size;have hn3:bN wR h3 h1.size 9 (.slice na (qb env).length nc) (qb env):=aB.ext x3 hn (fun y q k=>by have:=(aB.lt hn q).1;omega);have kc3:jz h3 (fun y=>y=b\/O y) b2 env:=(kc.ah e2).ext (x3.mono fun _ _ q=>.inl q);have hr3:aT NN h3 (fun _=>False) (.slice na (qb env).length nc) (qb env):=bN.read hn3 (fun _ _ q=>q);refine af ?_;refine xo rfl (aE rfl (kK k3 I3.len)) ?_;rintro v22 h4 ⟨hn4,e4⟩;refine af ?_;refine xo rfl (aE rfl (sZ (O:=fun _=>False) (bN.read hn4 (fun _ _ q=>q)) (hr3.ah e4))) ?_;rintro _ h4 ⟨rfl,rfl⟩;refine af ?_;refine fe rfl (by simp) ?_;have hs4:=(hr3.ah e4).open_slice;have hcl:=hs4.le;have hcm:=hs4.cap;unfold maxLen at hcm;have kb4:=k3.ah e4;have kc4:=kc3.ah e4;generalize hN:qb env=N at *;refine af ?_;refine gY (σ:=Nat) (fun i=>[(7,.int .i64 (i:Nat))]) (fun i g=>i<=N.length/\aj h4 g) (fun i=>N.length-i) (0) ⟨Nat.zero_le _,Ext.refl _ _⟩ rfl ?_;rintro i g ⟨hi,eg⟩ ih;refine af ?_;refine aR (fun hlt=>?_) (fun hlt=>?_)
   · have hil:i<N.length:=by omega
     obtain⟨mb,mo,t,ha,_,hx,hcell⟩:=(hs4.mv (Mv.ah eg)).at hil;have hsm:=MA I.sm t
     iterate 4 refine aX ?_
     refine cD ?_
     iterate 3 refine aW ?_
     refine xp rfl (cz rfl rfl i rfl ha) ?_;refine xp rfl (aA rfl hcell) ?_;refine xo rfl (aE rfl (mH (kb4.ah eg) t)) ?_;rintro _ g1 ⟨v,rfl,hv,f1⟩;obtain⟨nk,nt,xa,xn,xc,wa,wn,wc,rfl,_,hR,_⟩:=cW.get hv;refine af ?_;refine xo rfl (cO) ?_;rintro _ g2 ⟨rfl,k8,f2,y2⟩;refine aM rfl (aY rfl rfl k8 gI) ?_;rintro _ g3 ⟨rfl,k83,y3,y4⟩;have k83:aD g3 g1.size 42 (lG (nu env t).1.kind (nu env t).1.num (nu env t).1.fE (nu env t).1.self nk nt xa xn xc wa wn wc):=k83;have f13:aj g1 g3:=aj.only f2 y3 (Nat.le_refl _);have f03:=f1.trans f13;have e3g:=eg.trans f03;obtain⟨mb',mo',t',ha',_,hx',hcell'⟩:=(hs4.mv (Mv.ah e3g)).at hil;rw[hx] at hx';cases hx';refine aW ?_;refine cX ?_;refine aX ?_;refine cD ?_
     iterate 3 refine aW ?_
     refine xp rfl (cz rfl rfl i rfl ha') ?_;refine xp rfl (aA rfl hcell') ?_;refine xo rfl (aE rfl (mH (kc4.ah e3g) t)) ?_;rintro _ g4 ⟨v',rfl,hv',f4⟩;obtain⟨nk',nt',xa',xn',xc',wa',wn',wc',rfl,_,hR',_⟩:=cW.get hv';refine af ?_;refine xo rfl (cO) ?_;rintro _ g5 ⟨rfl,k10,f5,y5⟩;refine aM rfl (aY rfl rfl k10 gI) ?_;rintro _ g6 ⟨rfl,k106,y6,y7⟩;have k106:aD g6 g4.size 42 (lG (nu env t).1.kind (nu env t).1.num (nu env t).1.fE (nu env t).1.self nk' nt' xa' xn' xc' wa' wn' wc'):=k106;have f46:aj g4 g6:=aj.only f5 y6 (Nat.le_refl _);have k86:=k83.ah (f4.trans f46);have e6g:=e3g.trans (f4.trans f46);have hVa:=cW.of (eV.mv hR (Mv.ah (f13.trans (f4.trans f46))));have hVb:=cW.of (eV.mv hR' (Mv.ah f46));have x6:=(kb4.ah e6g).Rk;generalize (nu env t).1=vl at *;refine aW ?_;refine cX ?_;refine aX ?_;refine NV 12 (fun b=>Array.size g6<=b) (fun i=>Nat.blt i 12) (fun(q:Unit) (h':ai)=>aj g6 h') (fun(q:Unit)=>[(61,.bool false)]) rfl ?_ ?_
     · refine aI 0 ?_;refine bI 1 rfl (fun h' e=>aA rfl (e.old (k86.cell (i:=0) rfl))) ?_;refine aI 2 ?_;refine bI 3 rfl (fun h' e=>aA rfl (e.old (k106.cell (i:=0) rfl))) ?_;refine aI 4 ?_;refine aI 5 ?_;refine RD.cV (d:=55) (b':=false) rfl (decide_eq_false (by simp)) ?_;refine bI 6 rfl (fun h' e=>bY rfl (e.vD k86.row)) ?_;refine bI 8 rfl (fun h' e=>bY rfl (e.vD k106.row)) ?_;refine dH 7 rfl (aE rfl (Fk x6 hVa hsm)) ?_;rintro _ g7 ⟨rfl,f7⟩;refine⟨fun _=>f7.of,?_⟩;have x7:=x6.ah f7;have hVc:cW g7 _ _ vl:=cW.of (eV.mv hR' (Mv.ah (f46.trans f7)));refine dH 9 rfl (aE rfl (Fk x7 hVc hsm)) ?_;rintro _ g8 ⟨rfl,f8⟩;refine⟨fun _=>f8.of,?_⟩;refine aI 10 ?_;refine aI 11 ?_;have hd:Value.bool (decide ¬bs (je vl)=bs (je vl))= .bool false:=by simp
       exact Mp () (f7.trans f8) ⟨congrArg some hd,sb rfl⟩
     · rintro _ g7 f7;refine fe rfl (by simp) ?_;refine af ?_;exact ih (i+1) ⟨hil,e6g.trans f7⟩
   · refine af ?_;refine bp ?_;exact⟨_,rfl,rfl,kb4.ah eg,I3,x03.trans (aj.of (e4.trans eg))⟩
end Go.Proofs.YtoickfdopobmgaaGreatDoor
namespace Go.Proofs.YtoickfdopobmgaaGreatDoor
open Go Go.Lw
set_option maxRecDepth 100000 set_option maxHeartbeats 4000000
abbrev PT:By:=[108,101,116,32,120,32,61,32,50]
abbrev Rh:List Tr:=[.mk 7 [120] [.mk 0 [50] []]]
abbrev PO:By:=[120,32,42,32,51,59,32,120]
abbrev Rg:List Tr:=[.mk 5 [42] [.mk 3 [120] [],.mk 0 [51] []],.mk 3 [120] []]
abbrev PN:By:=[121]
abbrev Rf:List Tr:=[.mk 3 [121] []]
abbrev NI:By:=[49,32,43]
abbrev Re:List Tr:=[]
abbrev PM:By:=[108,101,116,32,120,32,61,32,53,59,32,122]
abbrev Rc:List Tr:=[.mk 7 [120] [.mk 0 [53] []],.mk 3 [122] []]
theorem RT:cy PT (dP PT).1 (dP PT).2.1 Rh 0 0:=.ok (u:=[(4,[108,101,116],0),(3,[120],4),(6,[61],6),(5,[50],8)]) (n:=60) (r:=[]) (by decide +kernel) (by kernel_rfl)
theorem RS:cy PO (dP PO).1 (dP PO).2.1 Rg 0 0:=.ok (u:=[(3,[120],0),(6,[42],2),(5,[51],4),(6,[59],5),(3,[120],7)]) (n:=60) (r:=[]) (by decide +kernel) (by kernel_rfl)
theorem RR:cy PN (dP PN).1 (dP PN).2.1 Rf 0 0:=.ok (u:=[(3,[121],0)]) (n:=60) (r:=[]) (by decide +kernel) (by kernel_rfl)
theorem RP:cy NI (dP NI).1 (dP NI).2.1 Re 3 10:=by
 have h:(cg (NI.length:Nat) 60 [] (.ok [(5,[49],0),(6,[43],2)])).map Prod.snd=some (.bad 3):=by kernel_rfl
 cases hq:cg (NI.length:Nat) 60 [] (.ok [(5,[49],0),(6,[43],2)]) with
 |none=>rw[hq] at h;cases h
 |some x =>
  obtain⟨k,r⟩:=x;rw[hq] at h;cases h;exact .bad (u:=[(5,[49],0),(6,[43],2)]) (n:=60) (k:=k) (by decide +kernel) hq
theorem RO:cy PM (dP PM).1 (dP PM).2.1 Rc 0 0:=.ok (u:=[(4,[108,101,116],0),(3,[120],4),(6,[61],6),(5,[53],8),(6,[59],9),(3,[122],11)]) (n:=60) (r:=[]) (by decide +kernel) (by kernel_rfl)
abbrev rE:List Bd:=[([120],mN 2)]
theorem R1:dy [] Rh 0 0=([],rE):=by kernel_rfl
theorem RZ:dy rE Rg 0 0=([61,32,54,10,61,32,50],rE):=by kernel_rfl
theorem RY:dy rE Rf 0 0=([101,114,114,111,114,32,52,32,105,110,32,49],rE):=by kernel_rfl
theorem RX:dy rE Re 3 10=([101,114,114,111,114,32,49,48,32,97,116,32,51],rE):=by kernel_rfl
theorem RU:dy rE Rc 0 0=([101,114,114,111,114,32,52,32,105,110,32,50],rE):=by kernel_rfl
theorem rlv:nu rE [120]=(mN 2,true):=by kernel_rfl
theorem yV {h:ai}(hg:E2 h):aq Tryz.prog 5 #[] h (bw fun r h'=>r= .bool true/\aj h h'):=by
 refine bL ?_;refine af ?_;refine xo rfl (aE rfl (jq hg)) ?_;rintro _ h1 ⟨b,rfl,hb,k1,e1⟩;have F:∀{h:ai},∀y,False->y<h.size:=fun _ q=>q.elim
 have q1:=gF k1 F (iD.nil 100) (Nat.le_refl _) PT (by decide) RT (by decide) (by decide);rw[R1] at q1;refine af ?_;refine xo rfl (aE rfl q1) ?_;rintro _ h2 ⟨rfl,k2,I2,x2⟩;have q2:=gF k2 F I2 (by decide) PO (by decide) RS (by decide) (by decide);rw[RZ] at q2;refine af ?_;refine xo rfl (aE rfl q2) ?_;rintro _ h3 ⟨rfl,k3,I3,x3⟩;have q3:=gF k3 F I3 (by decide) PN (by decide) RR (by decide) (by decide);rw[RY] at q3;refine af ?_;refine xo rfl (aE rfl q3) ?_;rintro _ h4 ⟨rfl,k4,I4,x4⟩;have q4:=gF k4 F I4 (by decide) NI (by decide) RP (by decide) (by decide);rw[RX] at q4;refine af ?_;refine xo rfl (aE rfl q4) ?_;rintro _ h5 ⟨rfl,k5,I5,x5⟩;have q5:=gF k5 F I5 (by decide) PM (by decide) RO (by decide) (by decide);rw[RU] at q5;refine af ?_;refine xo rfl (aE rfl q5) ?_;rintro _ h6 ⟨rfl,k6,I6,x6⟩;have q6:=mH k6 [120];rw[rlv] at q6;refine af ?_;refine xo rfl (aE rfl q6) ?_;rintro _ h7 ⟨v,rfl,hv,e7⟩;obtain⟨nk,nt,xa,xn,xc,wa,wn,wc,rfl,_,hR,_⟩:=cW.get hv;refine af ?_;refine xo rfl (cO) ?_;rintro _ h8 ⟨rfl,k8,e8,y8⟩;refine aM rfl (aY rfl rfl k8 gI) ?_;rintro _ h9 ⟨rfl,k9,x9,y9⟩;have k9:aD h9 h7.size 42 (lG 1 2 [] [] nk nt xa xn xc wa wn wc):=k9;have z1:=e1.size;have e9:aj h7 h9:=aj.only e8 x9 (Nat.le_refl _);have E:aj h h9:=((e1.only (((((x2.trans x3).trans x4).trans x5).trans x6)) hb).trans e7).trans e9;refine aW ?_;refine cX ?_;refine aX ?_;refine fL [(0,.bool true)] rfl ?_ ?_
 · refine af ?_;refine RW.cV (d:=27) (b':=true) rfl (decide_eq_true (by rfl)) ?_;refine af ?_;refine RW.cV (d:=31) (b':=true) rfl (decide_eq_true (by rfl)) ?_;refine af ?_;refine RW.cV (d:=35) (b':=true) rfl (decide_eq_true (by rfl)) ?_;refine af ?_;refine RW.cV (d:=39) (b':=true) rfl (decide_eq_true (by rfl)) ?_;refine af ?_;refine RW.cV (d:=43) (b':=true) rfl (decide_eq_true (by rfl)) ?_;refine af ?_;refine RW.cV (d:=46) (b':=true) rfl (rfl) ?_;refine af ?_;refine xp rfl (aA rfl (k9.cell (i:=0) rfl)) ?_;refine af ?_;refine RW.cV (d:=51) (b':=true) rfl (decide_eq_true (by rfl)) ?_;refine af ?_;refine xp rfl (aA rfl (k9.cell (i:=1) rfl)) ?_;refine af ?_;exact aF rfl ⟨au rfl (rfl),sb rfl⟩
 · refine bp ?_;exact⟨_,rfl,rfl,E⟩
end Go.Proofs.YtoickfdopobmgaaGreatDoor
namespace Go.Proofs.YtoickfdopobmgaaGreatDoor
open Go Go.Lw
set_option maxRecDepth 20000 set_option maxHeartbeats 4000000
theorem FE {e:Int}(h:0<=e/\e<=1000):(Lib.itoa e).length<=21:=Lib.itoa_length_le e (by omega) (by omega)
theorem yG {e n:Int}(he:0<=e/\e<=1000) (hn:0<=n/\n<=1000):(ic e HD n).length<=100:=by
 have h1:=FE he;have h2:=FE hn;unfold ic;simp only[List.length_append];have h3:EA.length=6:=rfl;have h4:HD.length=2:=rfl;have h5:[(32:UInt8)].length=1:=rfl;omega
theorem KK {c:Nat}{env:List Bd}(I:iD c env) (hc:100<=c){n:Tr}(hn:n.wt<=200000):(dy env [n] 0 0).1.length<=600000:=by
 have h1:=CX env n;have h2:=uZ (I.eval hc hn).2;unfold dy;rw[if_neg (by simp),runK];split
 · next w hw =>
   split at hw
   · cases hw;exact Nat.le_trans (yG (by omega) (by omega)) (by decide)
   · split at hw
     · split at hw
       · rw[runK] at hw;cases hw
       · cases hw;exact Nat.le_trans (yG (by decide) (by omega)) (by decide)
     · rw[runK] at hw;cases hw
 · next E o hw =>
   split at hw
   · cases hw
   · split at hw
     · split at hw
       · rw[runK] at hw;cases hw;exact Nat.zero_le _
       · cases hw
     · rw[runK] at hw;cases hw
       show (dD [[61,32]++je (cN env n).1]).length<=_
       rw[show dD [[61,32]++je (cN env n).1]=[61,32]++je (cN env n).1 from List.append_nil _,List.length_append]
       show 2+_<=_
       omega
theorem Sm.wt (x:Sm):x.node.wt<=200000:=by
 unfold Sm.node
 repeat' split
 all_goals (simp[Tr.wt,nr])
theorem vC {x:Sm}(h:x.Ok):cy x.text (dP x.text).1 (dP x.text).2.1 [x.node] 0 0:=by
 have:=tq (l:=[x]) (by simpa using h) (by simp)
 rwa [show eH ([x].map Sm.text)=x.text from by simp[eH]] at this
theorem xh {l:By}:bs l=(⟨#[]⟩:ByteArray)↔l=[]:=⟨fun h=>bl (l:=l) (m:=[]) h,fun h=>by rw[h];rfl⟩
theorem qw (l m n:By):bs l++bs m++bs n=bs (l++m++n):=by rw[br,br]
theorem pX {h:ai}(hg:E2 h){v w:Value}{xs:List By}(hv:aT NN h (fun _=>False) v xs){l:List Gs}(hl:aT Ro h (fun _=>False) w l) (hok:∀x∈l,Hx x) :
 aq Tryz.prog 3 #[v,w] h (bw fun r h'=>r= .bool true/\aj h h'):=by
 obtain⟨va,vn,vc,rfl,hvs⟩:=id hv.open;have hvl:xs.length=vn:=hvs.len;subst hvl;have hvm:=hvs.cap;have hvc:=hvs.le;obtain⟨wa,wn,wc,rfl,hws⟩:=id hl.open;have hwl:l.length=wn:=hws.len;subst hwl;have hwm:=hws.cap;have hwc:=hws.le;simp only[maxLen] at hvm hwm;refine bL ?_;refine aX ?_;refine cD ?_;refine aW ?_;refine cX ?_
 iterate 2 refine aX ?_
 refine fL [(18,.bool (sv xs 6 ||decide (20<l.length)))] rfl ?_ ?_
 · refine af ?_;refine xo rfl (aE rfl (CS 6 hv)) ?_;rintro _ h ⟨rfl,rfl⟩;refine af ?_;refine dG 14 (fun q=>?_) (fun q=>?_)
   · refine af ?_;exact aF rfl ⟨au rfl (by rw[q,Bool.true_or]),sb rfl⟩
   · refine af ?_;exact aF rfl ⟨au rfl (by rw[q,Bool.false_or,decide_eq_decide];omega),sb rfl⟩
 · refine iM (fun hgr=>?_) (fun hgr=>?_)
   · refine af ?_;refine xo rfl (aE rfl (yV hg)) ?_;rintro _ h1 ⟨rfl,e1⟩;refine af ?_;refine bp ?_;exact⟨_,rfl,rfl,e1⟩
   · obtain⟨hgr1,hgr2⟩:=Bool.or_eq_false_iff.1 hgr;obtain⟨hx150,hx6⟩:=Jy hgr1;have hl20:l.length<=20:=Nat.not_lt.1 (of_decide_eq_false hgr2);refine af ?_;refine xo rfl (aE rfl (jq hg)) ?_;rintro _ h1 ⟨b,rfl,hb,k1,e1⟩;refine af ?_;refine gY (σ:=Nat×List Bd) (fun s=>[(6,.int .i64 (s.1:Nat))]) (fun s g=>s.1<=xs.length/\aj h g/\jz g (fun _=>False) b s.2/\iD (100+600000*s.1) s.2) (fun s=>xs.length-s.1) ((0,[])) ⟨Nat.zero_le _,e1,k1,iD.nil _⟩ rfl ?_;rintro⟨i,env⟩ g ⟨hi,eg,kg,I⟩ ih
     try dsimp only
     dsimp only at hi kg I;refine af ?_;refine aR (fun hlt=>?_) (fun hlt=>?_)
     · have hil:i<xs.length:=by omega
       obtain⟨mb,mo,x,ha,_,hx,hc⟩:=(hvs.mv (Mv.ah eg)).at hil;have hxl:=hx150 x (List.mem_of_getElem? hx);obtain⟨K,a,e,hP⟩:=yC x (dP x).1 (dP x).2.1;have hKl:=vu hP;have hlen:(dP x).1.length<=x.length:=ox _ _ _ _;have hwt:∀n∈K,n.wt<=200000:=fun n hn=>Nat.le_trans (oG hn) (Nat.le_trans hP.wt (Nat.le_trans (Nat.mul_le_mul (Nat.le_trans hlen hxl) (show 2*x.length+42<=342 by omega)) (by decide)))
       iterate 4 refine aX ?_
       refine cD ?_
       iterate 3 refine aW ?_
       refine xp rfl (cz rfl rfl i rfl ha hil) ?_;refine xp rfl (aA rfl hc) ?_;refine xo rfl (aE rfl (s8 kg (fun _ q=>q.elim) I (by omega) x (by omega) hP hwt (by omega))) ?_;rintro _ g1 ⟨rfl,kg1,I1,x1⟩;refine af ?_;refine fe rfl (by simp) ?_;refine af ?_;exact ih (i+1,(dy env K a e).2) ⟨hil,eg.only x1 hb,kg1,I1.le (by omega)⟩
     · refine af ?_;refine xo rfl (aE rfl (jq (hg.ah eg))) ?_;rintro _ h2 ⟨b2,rfl,hb2,k2,e2⟩;have e02:=eg.trans e2;have hb2:h.size<=b2:=Nat.le_trans eg.size hb2;refine af ?_;refine gY (σ:=Nat×List Sm×List Bd×By×By) (fun s=>[(7,.string (bs s.2.2.2.1)),(8,.string (bs s.2.2.2.2)),(9,.int .i64 (s.1:Nat))]) (fun s g=>s.1<=l.length/\aj h g/\jz g (fun _=>False) b2 s.2.2.1/\iD (100+4000*s.1) s.2.2.1/\Bt s.2.1 s.2.2.1 s.2.2.2.1 s.2.2.2.2/\s.2.1.length<=s.1/\(∀x∈s.2.1,x.Ok)/\s.2.2.2.2.length<=600001*s.1) (fun s=>l.length-s.1) ((0,[],[],[],[])) ⟨Nat.zero_le _,e02,k2,iD.nil _,Bt.nil,Nat.le_refl _,fun _ q=>(by cases q),Nat.le_refl _⟩ rfl ?_;rintro⟨i,L,env,one,told⟩ g ⟨hi,eg,kg,I,S,hL,hLok,htl⟩ ih
       try dsimp only
       dsimp only at hi kg I S hL hLok htl;refine af ?_;refine aR (fun hlt=>?_) (fun hlt=>?_)
       · have hil:i<l.length:=by omega
         obtain⟨mb,mo,p,ha,_,hp,hrow⟩:=(hws.mv (Mv.ah eg)).uj hil;have hpk:=hok p (List.mem_of_getElem? hp);have hxk:=Il hpk;have hone:=KK I (by omega) (mC p).wt;have hsn:=S.snoc (mC p);have hxl:=(mC p).len;have hz:=kg.lt;refine af ?_;refine LR 9 9 ?_;refine aI 0 ?_;refine aI 2 ?_;refine aI 3 ?_;refine bI 4 rfl (fun h' e=>cz rfl rfl i rfl ha hil) ?_;refine bI 5 rfl (fun h' e=>bY rfl (e.vD hrow)) ?_;refine dH 1 rfl (aE rfl (wV kg (fun _ q=>q.elim) I.len)) ?_;rintro _ g1 ⟨b3,rfl,hb3,kc,f1⟩;refine⟨fun _=>f1.of,?_⟩;refine dH 6 rfl (aE rfl (mw hpk)) ?_;rintro _ g2 ⟨rfl,f2⟩;refine⟨fun _=>f2.of,?_⟩;have z1:=f1.size;have z2:=f2.size;have hstill:=s8 (kc.ah f2) (fun y q=>by have:=q.resolve_right (fun k=>k);omega) I (by omega) (mC p).text (by omega) (vC hxk) (by simpa using (mC p).wt) (by show 100+4000*i+4000*1<=_;omega);refine dH 7 rfl (aE rfl hstill) ?_;rintro _ g3 ⟨rfl,_,_,x3⟩;refine⟨fun _=>x3.mono (fun y _ q=>by omega),?_⟩;refine aI 8 ?_;refine iT ?_;have f03:aj g g3:=aj.only (f1.trans f2) x3 hb3;have eg3:=eg.trans f03;refine fe rfl (by simp) ?_;obtain⟨mb4,mo4,p4,ha4,_,hp4,hrow4⟩:=(hws.mv (Mv.ah eg3)).uj hil;rw[hp] at hp4;cases hp4
         iterate 2 refine aX ?_
         refine cD ?_
         iterate 3 refine aW ?_
         refine xp rfl (cz rfl rfl i rfl ha4 hil) ?_;refine xp rfl (bY rfl hrow4) ?_;refine xo rfl (aE rfl (mw hpk)) ?_;rintro _ g4 ⟨rfl,f4⟩;have kg4:=(kg.ah f03).ah f4;have hrun:=gF kg4 (fun _ q=>q.elim) I (by omega) (mC p).text (by omega) (vC hxk) (by simpa using (mC p).wt) (by show 100+4000*i+4000*1<=_;omega);have hkeep:=yS (env:=env) (k:=[(mC p).node]) (a:=0) (e:=0);generalize dy env [(mC p).node] 0 0=q at hone hsn hrun hkeep;obtain⟨t,E⟩:=q;dsimp only at hone hsn hrun hkeep;refine xo rfl (aE rfl hrun) ?_;rintro _ g5 ⟨rfl,kg5,I5,x5⟩;have I5:iD (100+4000*(i+1)) E:=I5.le (by show 100+4000*i+4000*1<=_;omega);have eg5:aj h g5:=aj.only (eg3.trans f4) x5 hb2;refine af ?_;refine xo rfl (aE rfl (zC g5 t)) ?_;rintro _ g5 ⟨rfl,rfl⟩;refine af ?_;refine iM (fun hwr=>?_) (fun hwr=>?_)
         · have hE:=hkeep hwr;subst hE;refine af ?_;exact ih (i+1,L,E,one,told) ⟨hil,eg5,kg5,I5,S,(show L.length<=i+1 by omega),hLok,(show told.length<=600001*(i+1) by omega)⟩
         · have S':=hsn hwr;have hL':(L++[mC p]).length<=i+1:=by rw[List.length_append,List.length_singleton];omega
           have hLok':∀x∈L++[mC p],x.Ok:=fun x hx=>by
            rcases List.mem_append.1 hx with hx|hx
            · exact hLok x hx
            · simp only[List.mem_singleton] at hx;rw[hx];exact hxk
           have hol:one.length<=480:=by rw[S.one];have:=rj L;omega
           have hol':=aG one;have htl':=aG told;have htz:=aG t;have hxz:=aG (mC p).text;have c2:(⟨#[59,32]⟩:ByteArray).size=2:=rfl;have c1:(⟨#[10]⟩:ByteArray).size=1:=rfl;obtain⟨mb6,mo6,p6,ha6,_,hp6,hrow6⟩:=(hws.mv (Mv.ah eg5)).uj hil;rw[hp] at hp6;cases hp6;refine af ?_;refine aR (fun ho=>?_) (fun ho=>?_)
           · have ho':one≠[]:=fun k=>ho (by rw[k];rfl)
             refine cD ?_
             iterate 3 refine aW ?_
             refine cX ?_;refine aX ?_;refine cD ?_
             iterate 3 refine aW ?_
             refine xp rfl (cz rfl rfl i rfl ha6 hil) ?_;refine xp rfl (bY rfl hrow6) ?_;refine xo rfl (aE rfl (mw hpk)) ?_;rintro _ g6 ⟨rfl,f6⟩;refine xp rfl (ay.aH rfl rfl (by (try simp only[ByteArray.size_append]);omega)) ?_;have eg6:=eg5.trans f6;have kg6:=kg5.ah f6;have hop:uk one (mC p).text=one++[59,32]++(mC p).text:=by unfold uk;rw[if_pos ho']
             rw[show bs one++(⟨#[59,32]⟩:ByteArray)++bs (mC p).text=bs (uk one (mC p).text) from by rw[hop];exact((qw one [59,32] (mC p).text))];refine aW ?_;refine cX ?_
             iterate 2 refine aX ?_
             refine fL [(75,.bool (decide (told≠[]/\t≠[])))] rfl ?_ ?_
             · refine af ?_;refine dG 72 (fun q=>?_) (fun q=>?_)
               · have q:=of_decide_eq_true q;refine af ?_;exact aF rfl ⟨au rfl (by rw[decide_eq_decide];exact⟨fun r=>⟨fun k=>q (by rw[k];rfl),fun k=>r (by rw[k];rfl)⟩,fun r k=>r.2 (xh.1 k)⟩),sb rfl⟩
               · have q:=Classical.not_not.1 (of_decide_eq_false q);refine af ?_;exact aF rfl ⟨au rfl (by rw[decide_eq_false (fun r=>r.1 (xh.1 q))]),sb rfl⟩
             · refine aR (fun htt=>?_) (fun htt=>?_)
               · refine cD ?_
                 iterate 2 refine aW ?_
                 have htp:eW told t=told++[10]++t:=by unfold eW;rw[if_pos htt]
                 refine aW ?_;refine cX ?_;refine cD ?_
                 iterate 2 refine aW ?_
                 refine xp rfl (ay.aH rfl rfl (by (try simp only[ByteArray.size_append]);omega)) ?_;rw[show bs told++(⟨#[10]⟩:ByteArray)++bs t=bs (eW told t) from by rw[htp];exact((qw told [10] t))];have htlen:(eW told t).length<=600001*(i+1):=by rw[htp];simp only[List.length_append,List.length_singleton];omega
                 refine af ?_;exact ih (i+1,L++[mC p],E,uk one (mC p).text,eW told t) ⟨hil,eg6,kg6,I5,S',hL',hLok',htlen⟩
               · have htp:eW told t=told++t:=by unfold eW;rw[if_neg htt]
                 refine aX ?_;refine cD ?_
                 iterate 2 refine aW ?_
                 refine xp rfl (ay.aH rfl rfl (by (try simp only[ByteArray.size_append]);omega)) ?_;rw[show bs told++bs t=bs (eW told t) from by rw[htp];exact((br told t))];have htlen:(eW told t).length<=600001*(i+1):=by rw[htp];simp only[List.length_append,List.length_singleton];omega
                 refine af ?_;exact ih (i+1,L++[mC p],E,uk one (mC p).text,eW told t) ⟨hil,eg6,kg6,I5,S',hL',hLok',htlen⟩
           · have ho':¬one≠[]:=fun k=>k (xh.1 (Classical.not_not.1 ho))
             iterate 2 refine aX ?_
             refine cD ?_
             iterate 3 refine aW ?_
             refine xp rfl (cz rfl rfl i rfl ha6 hil) ?_;refine xp rfl (bY rfl hrow6) ?_;refine xo rfl (aE rfl (mw hpk)) ?_;rintro _ g6 ⟨rfl,f6⟩;refine xp rfl (ay.aH rfl rfl (by (try simp only[ByteArray.size_append]);omega)) ?_;have eg6:=eg5.trans f6;have kg6:=kg5.ah f6;have hop:uk one (mC p).text=one++(mC p).text:=by unfold uk;rw[if_neg ho']
             rw[show bs one++bs (mC p).text=bs (uk one (mC p).text) from by rw[hop];exact((br one (mC p).text))];refine aW ?_;refine cX ?_
             iterate 2 refine aX ?_
             refine fL [(75,.bool (decide (told≠[]/\t≠[])))] rfl ?_ ?_
             · refine af ?_;refine dG 72 (fun q=>?_) (fun q=>?_)
               · have q:=of_decide_eq_true q;refine af ?_;exact aF rfl ⟨au rfl (by rw[decide_eq_decide];exact⟨fun r=>⟨fun k=>q (by rw[k];rfl),fun k=>r (by rw[k];rfl)⟩,fun r k=>r.2 (xh.1 k)⟩),sb rfl⟩
               · have q:=Classical.not_not.1 (of_decide_eq_false q);refine af ?_;exact aF rfl ⟨au rfl (by rw[decide_eq_false (fun r=>r.1 (xh.1 q))]),sb rfl⟩
             · refine aR (fun htt=>?_) (fun htt=>?_)
               · refine cD ?_
                 iterate 2 refine aW ?_
                 have htp:eW told t=told++[10]++t:=by unfold eW;rw[if_pos htt]
                 refine aW ?_;refine cX ?_;refine cD ?_
                 iterate 2 refine aW ?_
                 refine xp rfl (ay.aH rfl rfl (by (try simp only[ByteArray.size_append]);omega)) ?_;rw[show bs told++(⟨#[10]⟩:ByteArray)++bs t=bs (eW told t) from by rw[htp];exact((qw told [10] t))];have htlen:(eW told t).length<=600001*(i+1):=by rw[htp];simp only[List.length_append,List.length_singleton];omega
                 refine af ?_;exact ih (i+1,L++[mC p],E,uk one (mC p).text,eW told t) ⟨hil,eg6,kg6,I5,S',hL',hLok',htlen⟩
               · have htp:eW told t=told++t:=by unfold eW;rw[if_neg htt]
                 refine aX ?_;refine cD ?_
                 iterate 2 refine aW ?_
                 refine xp rfl (ay.aH rfl rfl (by (try simp only[ByteArray.size_append]);omega)) ?_;rw[show bs told++bs t=bs (eW told t) from by rw[htp];exact((br told t))];have htlen:(eW told t).length<=600001*(i+1):=by rw[htp];simp only[List.length_append,List.length_singleton];omega
                 refine af ?_;exact ih (i+1,L++[mC p],E,uk one (mC p).text,eW told t) ⟨hil,eg6,kg6,I5,S',hL',hLok',htlen⟩
       · have ho:=S.one;subst ho;have hL20:L.length<=20:=by omega
         have hj:=rj L;refine af ?_;refine xo rfl (aE rfl (jq (hg.ah eg))) ?_;rintro _ h3 ⟨b4,rfl,hb4,k4,e3⟩;have eg3:=eg.trans e3;have hrun:=gF k4 (fun _ q=>q.elim) (iD.nil 100) (Nat.le_refl _) (eH (L.map Sm.text)) (by omega) (tq hLok hL20) (fun n hn=>by obtain⟨x,_,rfl⟩:=List.mem_map.1 hn;exact x.wt) (by rw[List.length_map];omega);rw[S.all] at hrun;dsimp only at hrun;have hb4':h.size<=b4:=Nat.le_trans eg.size hb4;refine aW ?_;refine cX ?_;refine aX ?_;refine PK (fun(q:Unit) (h':ai)=>aj h h') (fun(q:Unit)=>[(4,.bool true)]) rfl ?_ ?_
         · refine af ?_;refine xo rfl (aE rfl hrun) ?_;rintro _ h4 ⟨rfl,k5,I5,x5⟩;refine af ?_;refine RW.cV (d:=87) (b':=true) rfl (decide_eq_true (by rfl)) ?_;have eg4:aj h h4:=aj.only eg3 x5 hb4';have kg4:jz h4 (fun _=>False) b2 env:=kg.ah (aj.only e3 x5 hb4);refine af ?_;refine xo rfl (aE rfl (kK k5 I5.len)) ?_;rintro _ h5 ⟨hn5,e5⟩;refine af ?_;refine xo rfl (aE rfl (kK (kg4.ah e5) I.len)) ?_;rintro _ h6 ⟨hn6,e6⟩;refine xo rfl (aE rfl (sZ (O:=fun _=>False) (O':=fun _=>False) ((bN.read hn5 (fun _ _ q=>q)).ah e6) (bN.read hn6 (fun _ _ q=>q)))) ?_;rintro _ h6 ⟨rfl,rfl⟩;refine af ?_;refine RW.cV (d:=94) (b':=true) rfl (by simp) ?_;have eg6:=eg4.trans (e5.trans e6);refine xo rfl (aE rfl (yV (hg.ah eg6))) ?_;rintro _ h7 ⟨rfl,e7⟩;refine af ?_;exact zV () (eg6.trans e7)
         · rintro _ h4 e4;refine bp ?_;exact⟨_,rfl,rfl,e4⟩
end Go.Proofs.YtoickfdopobmgaaGreatDoor
