/- What the proof of the statement leans on (part 31). -/
import Derived.Test.YtpjgdgdnbkjoiaaGreatDoorQzd

namespace Go.Proofs.YtpjgdgdnbkjoiaaGreatDoor
open Go.Proofs.Tryz
open Go Go.Lw
set_option maxRecDepth 20000
section
variable {h:ai}{s:MS}
abbrev Q2 (O:Nat->Prop) (h g:ai) (b:Nat) (t:MS):Prop:=∃xa xn xc ya yn yc za zn zc ua un uc,Fs O h g b t (.slice xa xn xc) (.slice ya yn yc) (.slice za zn zc) (.slice ua un uc)
theorem eJ.Ob {O:Nat->Prop}{h':ai}{v:Value}{b:Nat}(k:eJ O h v s) (e:ak h h') (hb:h.size<=b):eJ (fun y=>y=b\/O y) h' v s:=by
 obtain⟨rv,hv,lv,fv,rfl,hS⟩:=k;exact⟨rv,hv,lv,fv,rfl,hS.mv (Mv.cL e fun y hy q=>⟨fun k=>k,by rintro(rfl|k);omega;exact q k⟩)⟩
theorem Fs.Oh {O:Nat->Prop}{g g':ai}{b:Nat}{t:MS}{rv hv lv fv:Value}(k:aE g' b 31 (sP t rv hv lv fv)) (e:ak h g) (x:Ext (fun y=>y=b) g g') (hb:h.size<=b) (hO:∀y,O y->y<h.size) (hT:vf (fun y=>y=b\/O y) g t rv hv lv fv):Fs O h g' b t rv hv lv fv :=
 ⟨k,ak.only e x hb,hb,hO,hT.mv (Mv.cL x fun y hy q=>⟨fun k=>q (.inl k),q⟩)⟩
theorem xR {B:Nat}(k:MI B s){c:Cm}(hk:jM c):cQ B s (dh s c)/\lR (dh s c):=by
 unfold jM at hk;unfold dh;rw[if_neg (by omega)];have h1:=Kz k c;generalize GB (fixC s) c=t at h1;unfold CL;split
 · refine⟨⟨h1.inv.cur _,h1.bell,h1.lin⟩,_,rfl,?_⟩
   show mO t.text (lV t.text _ 0 1)
   rw[oS];exact Ft (mw _ _)
 · exact⟨⟨h1.inv.cur _,h1.bell,h1.lin⟩,_,rfl,mw _ _⟩
theorem EM {c:Cm}(hk:jM c) (hm:s.mode≠4):(dh s c).mode=(lI (fixC s) c).mode:=by
 unfold jM at hk;unfold dh;rw[if_neg (by omega),show GB (fixC s) c=lI (fixC s) c from if_neg hm];unfold CL;split<;>rfl
section
variable {Z:Nat->Prop}{base:Nat}{g g':ai}{eb db ub:Nat}{wv gv tv rv hv lv fv:Value}{n:Int}{t:MS}{u:Bw}
theorem sN (k:aE g' eb 57 (KT t rv hv lv fv tv ub db)) (x:Ext (fun y=>y=eb) g g') (keb:bD g eb 57) (kt:Bt Z g tv t.text) (un:fV Z g ub wv gv u) (kd:gf (uZ Z eb db ub wv gv) g db t.text n) (hT:vf (uZ Z eb db ub wv gv) g t rv hv lv fv) (low:∀y,uZ Dj eb db ub wv gv y->base<=y) (zt:∀y,Z y->bD g y 9) :
 qZ Z base g' eb db ub wv gv tv rv hv lv fv n t u:=by
 have kub:bD g ub 88:=by obtain⟨_,kk,_⟩:=un.blk;exact kk.ty
 have kdb:bD g db 94:=by obtain⟨_,_,_,_,_,_,_,_,_,kk,_⟩:=id kd;exact kk.ty
 have hM:∀b,b=eb->Ot Z g b:=fun b e=>by subst e;exact dO keb (by decide) (by decide)
 exact⟨k,kt.mv (iR x hM),un.ext' x (fun q=>kub.ne keb (by decide) q) (fun b q e=>(un.yS b q).ne keb (by decide) e) (fun b q e=>(un.CC b q).ne keb (by decide) e) hM,kd.others x (fun y q=>⟨.inl q,fun q2=>kdb.ne keb (by decide) (q2.symm.trans q)⟩) (fun y q=>.inl q),hT.mv (Mv.cL x fun y _ q=>⟨fun q2=>q (.inl q2),q⟩),low,fun y q=>(zt y q).ext x (fun q2=>(zt y q).ne keb (by decide) q2)⟩
end
theorem G7 {Z:Nat->Prop}{base:Nat}{eb:Nat}{e:nr}(k:fZ Z base h eb e){B:Nat}(hI:MI B e.s) (hB:B<=5000000) (c:Cm) (hct:c.text.length<=100000) (hk:jM c) (hm:e.s.mode=0) (hm':(dh e.s c).mode=0) (hw:e.u.were.length<100) (hf:c.kind=2->(dh e.s c).from_<=1000000) (hg:0<=oh e.s (dh e.s c) c) :
 af Tryz.prog 7 #[.pointer (some ⟨eb,0,none⟩),HE c] h (aX fun _ h'=>fZ Z base h' eb (yF e c)/\Ext (pg base h) h h'):=by
 obtain⟨db,ub,wv,gv,tv,rv,hv,lv,fv,n,k⟩:=k;obtain⟨s,u⟩:=e;dsimp only at k hI hm hm' hw hf hg;obtain⟨xa,xn,xc,rfl,_⟩:=k.ms.ring.open;obtain⟨ya,yn,yc,rfl,_⟩:=k.ms.hist.open;obtain⟨za,zn,zc,rfl,_⟩:=k.ms.lines.open;obtain⟨ua,un,uc,rfl,_⟩:=k.ms.flags.open;have hA:=(xR hI hk).1;have hm2:(lI (fixC s) c).mode≠2:=by rw[<-EM hk (by omega),hm'];decide
 have hdo:yF ⟨s,u⟩ c=⟨dh s c,if (dh s c).text≠s.text then yu u (dh s c).text (dh s c).cur (oh s (dh s c) c) else u⟩:=by
  unfold yF;dsimp only;rw[if_neg (by omega)]
 have hki:=hk;unfold jM at hki;obtain⟨T,hTT⟩:∃T,dh s c=T:=⟨_,rfl⟩
 obtain⟨gr,hgr⟩:∃gr,oh s T c=gr:=⟨_,rfl⟩
 rw[hTT] at hA hm' hf hg hdo
 rw[hgr] at hg hdo
 have htx:=hI.text;have htT:=hA.inv.text;have hgl:=hI.linesn;have hgT:=hA.inv.linesn;refine af.of func7 rfl rfl ?_;refine xr func7 rfl ?_;refine xo rfl (az.iQ rfl) ?_;rintro _ h1 ⟨rfl,k1,e1,z1⟩;have k1:aE h1 h.size 28 (Ey c):=k1;have K:=k.aj e1;have hebl:=k.blk.lt;refine xd [0,1,3] rfl ?_;refine aC rfl ?_;refine G.block rfl rfl ?_;refine eB func7 1 rfl ?_;refine xo rfl (ay (vs:=[_]) func20 rfl H.uL rfl (af.cD (ow K.blk))) ?_;rintro _ h2 ⟨rfl,hh2⟩;refine cV 1 [0,1,3,13] rfl ?_;subst hh2;refine aA rfl rfl (fun hc=>absurd hc (by decide)) (fun _=>?_);refine aC rfl ?_;refine G.eF [(16,.bool true)] [(0,_),(1,_),(3,_),(13,_)] ⟨rfl,rfl,rfl,rfl,trivial⟩ func7 rfl ?_ ?_
 · refine xp rfl (aa (off:=0) underlying28 rfl rfl H.ck rfl) ?_;refine xp rfl (au H.gS rfl (k1.cell (i:=0) rfl)) ?_;refine dz 2 rfl ?_;refine RW.dK (d:=20) (b':=true) rfl (decide_eq_true (by omega)) ?_;refine xp rfl (aa (off:=0) underlying28 rfl rfl H.ck rfl) ?_;refine xp rfl (au H.gS rfl (k1.cell (i:=0) rfl)) ?_;refine dz 3 rfl ?_;refine RW.done rfl ?_;exact⟨rfl,aq rfl (by simp;omega),rfl,rfl,rfl,rfl,trivial⟩
 · refine aA rfl rfl (fun _=>?_) (fun hc=>absurd hc (by decide));have happ:=fun {Q:Nat->Prop}{g:ai}{w:Value}(e:ak h2 g) (kw:eJ Q g w s) (hQ:∀y,Q y->y<g.size)=>Bp (K.lx.aj e) kw hQ hI (by omega) c (by omega) hk (by omega) hm2
   rw[hTT] at happ;have hMe:¬Array.size h2<=eb:=by omega
   have hM1:¬Array.size h2<=h.size:=by omega
   refine aR rfl ?_;refine G.cz ?_;refine aC rfl ?_;refine G.sy (fun(b5:Nat) (h':ai)=>Q2 (uZ Z eb db ub wv gv) h2 h' b5 T) (fun(b5:Nat)=>[(4,.pointer (some ⟨b5,0,none⟩))]) [(0,_),(1,_),(3,_),(13,_),(16,_)] ⟨rfl,rfl,rfl,rfl,rfl,trivial⟩ (fun b=>Array.size h2<=b) (fun i=>Nat.blt i 7) (sz:=8) (listed:= #[false,false,false,false,false,false,false,false]) func7 H.mixed rfl rfl rfl ?_ ?_
   · refine aP 0 1 (by kernel_rfl) rfl ?_;refine aP 1 3 (by kernel_rfl) rfl ?_;refine cj 2 7 (by kernel_rfl) rfl (fun h' e=>aa (off:=0) underlying57 rfl rfl H.cn rfl) ?_;refine cj 3 15 (by kernel_rfl) rfl (fun h' e=>an.aG H.iZ H.cn rfl (e.rowAt hMe (ju K.blk.row)) (by first|rfl|(simp;done)|(simp;omega))) ?_;refine cj 4 31 (by kernel_rfl) rfl (fun h' e=>an.aG H.Br H.sS rfl (e.rowAt hM1 k1.row) (by first|rfl|(simp;done)|(simp;omega))) ?_;refine RD.yx 5 6 (li:= #[true,true,true,true,true,true,false,false]) (lj:= #[true,true,true,true,true,false,true,false]) rfl rfl (by kernel_rfl) rfl rfl rfl rfl rfl rfl (ay (vs:=[_,_]) func22 rfl H.N4 rfl (af.cD (happ (Ext.refl _ _) K.tU K.lt))) (az.cC H.zY) (by kernel_rfl) (by kernel_rfl) ?_ ?_
     · rintro v5 g5 ⟨kv5,e5⟩;refine⟨fun _=>e5.of,?_⟩;refine jU 6 127 (by kernel_rfl) rfl (az.cC H.zY) ?_;rintro _ g6 ⟨rfl,kb,e6,z6⟩;refine⟨fun _=>e6.of,?_⟩;have kw6:=kv5.Ob e6 (Nat.le_refl _);obtain⟨_,_,_,_,_,_,_,_,_,_,_,_,rfl,hT⟩:=eJ.get kw6;refine rf 7 255 (by kernel_rfl) rfl (az.aH H.cn rfl rfl kb (by first|rfl|(simp;done)|(simp;omega)) (by first|decide|exact of_decide_eq_true rfl|(simp;done)|(simp;omega)) (ms1)) ?_;rintro _ g8 ⟨rfl,k8,x8,z8⟩;refine⟨fun hk=>(nomatch hk),?_⟩;refine RD.done (by kernel_rfl) ?_;exact⟨g5.size,⟨_,_,_,_,_,_,_,_,_,_,_,_,Fs.Oh k8 (e5.trans e6) x8 e5.size K.lt hT⟩,rfl,rfl,rfl,rfl,rfl,rfl,trivial⟩
     · rintro _ g5 ⟨rfl,kb,e5,z5⟩;refine⟨fun _=>e5.of,?_⟩;refine jU 5 127 (by kernel_rfl) rfl (ay (vs:=[_,_]) func22 rfl H.N4 rfl (af.cD (happ e5 (K.tU.Ob e5 (Nat.le_refl _)) (fun y hy=>by rcases hy with rfl|hy;(have:=kb.lt;exact this);(have:=K.lt y hy;omega))))) ?_;rintro v6 g6 ⟨kw6,e6⟩;refine⟨fun _=>e6.of,?_⟩;obtain⟨_,_,_,_,_,_,_,_,_,_,_,_,rfl,hT⟩:=eJ.get kw6;refine rf 7 255 (by kernel_rfl) rfl (az.aH H.cn rfl rfl (kb.aj e6) (by first|rfl|(simp;done)|(simp;omega)) (by first|decide|exact of_decide_eq_true rfl|(simp;done)|(simp;omega)) (ms1)) ?_;rintro _ g8 ⟨rfl,k8,x8,z8⟩;refine⟨fun hk=>(nomatch hk),?_⟩;refine RD.done (by kernel_rfl) ?_;exact⟨h2.size,⟨_,_,_,_,_,_,_,_,_,_,_,_,Fs.Oh k8 (e5.trans e6) x8 (Nat.le_refl _) K.lt hT⟩,rfl,rfl,rfl,rfl,rfl,rfl,trivial⟩
   · rintro b5 h5 ⟨va,vn,vc,wa,wn,wc,pa,pn,pc,qa,qn,qc,Y⟩;have K5:=K.aj Y.ext;have hb5:=Y.hb;have k15:=k1.aj Y.ext;have hz5:=Y.ext.size;have hb5l:=Y.blk.lt;have hgc:=CD K5.tU Y.tU c hf (by omega) (by omega);rw[hgr] at hgc;have hMe5:¬Array.size h5<=eb:=by omega
     have hM15:¬Array.size h5<=h.size:=by omega
     have hMb5:¬Array.size h5<=b5:=by omega
     refine aC rfl ?_;refine cU (fun b=>Array.size h5<=b) (fun i=>Nat.blt i 8) (sz:=8) (listed:= #[false,false,false,false,false,false,false,false]) func7 H.mixed rfl rfl rfl ?_;refine aP 0 1 (by kernel_rfl) rfl ?_;refine aP 1 3 (by kernel_rfl) rfl ?_;refine cj 2 7 (by kernel_rfl) rfl (fun h' e=>aa (off:=0) underlying57 rfl rfl H.cn rfl) ?_;refine cj 3 15 (by kernel_rfl) rfl (fun h' e=>an.aG H.iZ H.cn rfl (e.rowAt hMe5 (ju K5.blk.row)) (by first|rfl|(simp;done)|(simp;omega))) ?_;refine cj 4 31 (by kernel_rfl) rfl (fun h' e=>an.aG H.iZ H.cn rfl (e.rowAt hMb5 Y.blk.row) (by first|rfl|(simp;done)|(simp;omega))) ?_;refine cj 5 63 (by kernel_rfl) rfl (fun h' e=>an.aG H.Br H.sS rfl (e.rowAt hM15 k15.row) (by first|rfl|(simp;done)|(simp;omega))) ?_;refine jU 6 127 (by kernel_rfl) rfl (ay (vs:=[_,_,_]) func23 rfl H.PJ rfl (af.cD (hgc))) ?_;rintro _ h6 ⟨rfl,e6⟩;refine⟨fun _=>e6.of,?_⟩;have K6:=K5.aj e6;have Y6:=Y.aj e6;have kb6:aE h6 eb 57 (sP s (.slice xa xn xc) (.slice ya yn yc) (.slice za zn zc) (.slice ua un uc)++[tv,.pointer (some ⟨ub,0,none⟩),.pointer (some ⟨db,0,none⟩),.int .i64 0,.bool false,.int .i64 0,.int .i32 0]):=K6.blk;have x06:Ext (pg base h) h h6:=ak.of ((e1.trans Y.ext).trans e6);refine aP 7 255 (by kernel_rfl) rfl ?_;refine RD.done (by kernel_rfl) ?_;refine xu [0,1,3,4,5,13,16] rfl ?_;refine aC rfl ?_;refine aC rfl ?_;refine G.CP func7 H.mixed rfl (by kernel_rfl) ?_;refine RQ.aD rfl rfl rfl rfl (aa (off:=0) underlying31 rfl rfl H.lS rfl) ?_;refine RQ.aD rfl rfl rfl rfl (au H.ve rfl (Y6.blk.cell (i:=0) rfl)) ?_;refine RQ.aD rfl rfl rfl rfl (aS rfl) ?_;refine RQ.aD rfl rfl rfl rfl (cG rfl) ?_;refine RQ.aD rfl rfl rfl rfl (aa (off:=0) underlying57 rfl rfl H.cn rfl) ?_;refine RQ.aD rfl rfl rfl rfl (aa (off:=0) underlying31 rfl rfl H.lS rfl) ?_;refine RQ.aD rfl rfl rfl rfl (au H.ve rfl (kb6.cell (i:=0) rfl)) ?_;refine RQ.aD rfl rfl rfl rfl (an.AK rfl rfl) ?_;refine RQ.done rfl ?_;refine xu [0,1,3,4,5,13,16,65] rfl ?_;refine dQ rfl rfl (fun hne=>?_) (fun hne=>?_)
     · have hne':T.text≠s.text:=fun q=>hne (by rw[q])
       rw[hdo,if_pos hne'];have hch:=mJ kb6 K6.txt K6.doc T.text htx htT K6.lt (.inl rfl) (fun q=>K6.Ba.ne K6.blk.ty (by decide) q.symm) (fun y q=>(K6.zt y q).lt);refine eB func7 1 rfl ?_;refine xp rfl (aa (off:=0) underlying31 rfl rfl H.lS rfl) ?_;refine xp rfl (au H.ve rfl (Y6.blk.cell (i:=0) rfl)) ?_;refine xo rfl (ay (vs:=[_,_]) func24 rfl H.Mx rfl (af.cD (hch))) ?_;rintro _ h7 ⟨⟨tv',kb7,kt7,m,kd7⟩,x7⟩;refine xd [0,1,3,4,5,13,16,65] rfl ?_;refine b9 func7 2 [0,1,3,4,5,13,16,65,71] rfl ?_;refine aA rfl rfl (fun _=>?_) (fun hc=>absurd hc (by simp;omega));have hb6:b5≠eb/\b5≠db:=⟨by omega,fun q=>by have:=(k.Ba).lt;omega⟩
       have un7:=K6.un.ext' x7 (fun q=>q.elim (fun q=>K6.Lq.ne K6.blk.ty (by decide) q) (fun q=>K6.Lq.ne K6.Ba (by decide) q)) (fun b q q2=>q2.elim (fun q2=>(K6.un.yS b q).ne K6.blk.ty (by decide) q2) (fun q2=>(K6.un.yS b q).ne K6.Ba (by decide) q2)) (fun b q q2=>q2.elim (fun q2=>(K6.un.CC b q).ne K6.blk.ty (by decide) q2) (fun q2=>(K6.un.CC b q).ne K6.Ba (by decide) q2)) (fun b q=>q.elim (fun q=>q▸dO K6.blk.ty (by decide) (by decide)) (fun q=>q▸dO K6.Ba (by decide) (by decide)));have kb57:=Y6.blk.ext x7 (fun q=>q.elim hb6.1 hb6.2);have hz6:=e6.size;have hz7:=x7.size
       have hxu:¬q9 ub wv gv eb:=fun q=>by
        rcases q with q|q|q
        · exact K6.Lq.ne K6.blk.ty (by decide) q.symm
        · exact(K6.un.yS _ q).ne K6.blk.ty (by decide) rfl
        · exact(K6.un.CC _ q).ne K6.blk.ty (by decide) rfl
       have hxb:¬q9 ub wv gv b5:=fun q=>by have:=(k.ty b5 (.inr (.inr (.inl q)))).lt;omega
       refine cU (q9 ub wv gv) (fun i=>Nat.blt i 12) (sz:=12) (listed:= #[false,false,false,false,false,false,false,false,false,false,false,false]) func7 H.mixed rfl rfl rfl ?_;refine aP 0 1 (by kernel_rfl) rfl ?_;refine aP 1 3 (by kernel_rfl) rfl ?_;refine cj 2 7 (by kernel_rfl) rfl (fun h' e=>aa (off:=20) underlying57 rfl rfl H.Mf rfl) ?_;refine cj 3 15 (by kernel_rfl) rfl (fun h' e=>au H.M4 rfl (e.cell hxu (kb7.cell (i:=20) rfl))) ?_;refine aP 4 31 (by kernel_rfl) rfl ?_;refine aP 5 63 (by kernel_rfl) rfl ?_;refine cj 6 127 (by kernel_rfl) rfl (fun h' e=>aa (off:=19) underlying57 rfl rfl H.vw rfl) ?_;refine cj 7 255 (by kernel_rfl) rfl (fun h' e=>au H.JP rfl (e.cell hxu (kb7.cell (i:=19) rfl))) ?_;refine cj 8 511 (by kernel_rfl) rfl (fun h' e=>aa (off:=1) underlying31 rfl rfl H.ck rfl) ?_;refine cj 9 1023 (by kernel_rfl) rfl (fun h' e=>au H.gS rfl (e.cell hxb (kb57.cell (i:=1) rfl))) ?_;refine aP 10 2047 (by kernel_rfl) rfl ?_;refine jU 11 4095 (by kernel_rfl) rfl (ay (vs:=[_,_,_,_]) func25 rfl H.PI rfl (af.cD (yq un7 kt7 T.cur gr hw))) ?_;rintro _ h8 ⟨rfl,⟨wv',gv',un8,hun⟩,x8⟩;refine⟨fun _=>x8,?_⟩;have hz8:=x8.size;have kb8:=kb7.ext x8 hxu;have kb58:=kb57.ext x8 hxb;refine RD.done (by kernel_rfl) ?_;refine xu [0,1,3,4,5,13,16,65,71] rfl ?_;refine aC rfl ?_;refine b9 func7 2 [0,1,3,4,5,13,16,65,71,85] rfl ?_;refine aA rfl rfl (fun hc=>absurd hc (by simp;omega)) (fun _=>?_);refine aR rfl ?_;refine G.eM func7 rfl ?_;refine eU 1 rfl rfl (an.aG H.iZ H.cn rfl kb58.row (by first|rfl|(simp;done)|(simp;omega))) ?_;refine eU 1 rfl rfl (aa (off:=0) underlying57 rfl rfl H.cn rfl) ?_;refine RW.fS rfl rfl rfl (az.aH H.cn rfl rfl kb8 (by first|rfl|(simp;done)|(simp;omega)) (by first|decide|exact of_decide_eq_true rfl|(simp;done)|(simp;omega)) (ms1)) ?_;rintro _ h9 ⟨rfl,k9,x9,z9⟩;refine xd [0,1,3,4,5,13,16,65,71,85] rfl ?_;refine G.G2 func7 rfl ?_
       have hmk:∀y,uZ Z eb db ub wv' gv' y->uZ Z eb db ub wv gv y\/h7.size<=y:=fun y q=>by
        rcases q with q|q|q|q
        · exact .inl (.inl q)
        · exact .inl (.inr (.inl q))
        · exact(hun y q).imp (fun q=>.inr (.inr (.inl q))) (fun q=>q)
        · exact .inl (.inr (.inr (.inr q)))
       have hnz:∀y,Z y->¬uZ Dj eb db ub wv gv y:=fun y q q2=>(k.ty y q2).ns (k.zt y q) rfl
       have kd8:=kd7.others x8 (fun y q=>⟨.inr (.inr (.inl q)),fun q2=>by
        subst q2
        rcases q with q|q|q
        · exact K6.Lq.ne K6.Ba (by decide) q.symm
        · exact(K6.un.yS _ q).ne K6.Ba (by decide) rfl
        · exact(K6.un.CC _ q).ne K6.Ba (by decide) rfl⟩) hmk
       have kt8:=kt7.mv (iR (Z:=Z) x8 (fun y q=>by
        rcases q with q|q|q
        · obtain⟨_,kk,_⟩:=un7.blk;exact q▸dO kk.ty (by decide) (by decide)
        · exact dO (un7.yS y q) (by decide) (by decide)
        · exact dO (un7.CC y q) (by decide) (by decide)))
       have hT8:vf (uZ Z eb db ub wv' gv') h8 T (.slice va vn vc) (.slice wa wn wc) (.slice pa pn pc) (.slice qa qn qc):=(Y6.weak.mv (O':=uZ Z eb db ub wv gv) (Mv.cL x7 fun y hy q=>⟨fun q2=>q2.elim (fun q2=>q (.inl q2)) (fun q2=>q (.inr (.inl q2))),q⟩)).mv (Mv.cL x8 fun y hy q=>⟨fun q2=>q (.inr (.inr (.inl q2))),fun q2=>by
        rcases hmk y q2 with q2|q2
        · exact q q2
        · omega⟩)
       refine⟨_,rfl,⟨db,ub,wv',gv',tv',_,_,_,_,m,sN k9 x9 kb8.ty kt8 un8 kd8 hT8 (fun y q=>?_) (fun y q=>((K6.zt y q).ext x7 (fun q2=>hnz y q (q2.imp (fun q=>q) (fun q=>.inl q)))).ext x8 (fun q2=>hnz y q (.inr (.inr (.inl q2)))))⟩,?_⟩
       · have hbe:=k.low eb (.inl rfl)
         rcases q with q|q|q|q
         · exact k.low y (.inl q)
         · exact k.low y (.inr (.inl q))
         · rcases hun y q with q|q
           · exact k.low y (.inr (.inr (.inl q)))
           · omega
         · exact q.elim
       · have hin:∀y,uZ Dj eb db ub wv gv y->pg base h y:=k.ty;exact((x06.trans (x7.mono fun y _ q=>hin y (q.imp (fun q=>q) (fun q=>.inl q)))).trans (x8.mono fun y _ q=>hin y (.inr (.inr (.inl q))))).trans (x9.mono fun y _ q=>hin y (.inl q))
     · have hne':T.text=s.text:=gX (by simpa using hne);rw[hdo,if_neg (fun q=>q hne')];refine aR rfl ?_;refine aC rfl ?_;refine b9 func7 2 [0,1,3,4,5,13,16,65,85] rfl ?_;refine aA rfl rfl (fun hc=>absurd hc (by simp;omega)) (fun _=>?_);refine aR rfl ?_;refine G.eM func7 rfl ?_;refine eU 1 rfl rfl (an.aG H.iZ H.cn rfl Y6.blk.row (by first|rfl|(simp;done)|(simp;omega))) ?_;refine eU 1 rfl rfl (aa (off:=0) underlying57 rfl rfl H.cn rfl) ?_;refine RW.fS rfl rfl rfl (az.aH H.cn rfl rfl kb6 (by first|rfl|(simp;done)|(simp;omega)) (by first|decide|exact of_decide_eq_true rfl|(simp;done)|(simp;omega)) (ms1)) ?_;rintro _ h9 ⟨rfl,k9,x9,z9⟩;refine xd [0,1,3,4,5,13,16,65,85] rfl ?_;refine G.G2 func7 rfl ?_;exact⟨_,rfl,⟨db,ub,wv,gv,tv,_,_,_,_,n,sN k9 x9 kb6.ty (hne'▸K6.txt) K6.un (hne'▸K6.doc) Y6.weak k.low K6.zt⟩,x06.trans (x9.mono fun y _ q=>k.ty y (.inl q))⟩
end
end Go.Proofs.YtpjgdgdnbkjoiaaGreatDoor
namespace Go.Proofs.YtpjgdgdnbkjoiaaGreatDoor
open Go
section
variable {B:Nat}{e:nr}
structure pH (B:Nat) (e:nr):Prop where
  inv:MI B e.s
  mode:e.s.mode=0
  now:e.u.t.length<=16384
  were:∀x∈e.u.were,x.1.length<=16384
  gone:∀x∈e.u.gone,x.1.length<=16384
  cnt:e.u.were.length+e.u.gone.length<=100
theorem pH.up {B C:Nat}{e:nr}(k:pH B e) (h:B<=C):pH C e:= { k with inv:=k.inv.up h }
theorem Fp {s:MS}(k:MI B s):MI (B+1) { s with bells:=s.bells+1 } :=
  { k.up (show B<=B+1 by omega) with
    bell0:=by have:=k.bell0;show 0<=s.bells+1;omega
    bell1:=by have:=k.bell1;show s.bells+1<=((B+1:Nat):Int);omega }
theorem Fo {s:MS}(k:MI B s){t:By}(ht:t.length<=16384) (c:Int):MI (B+1) { s with text:=t,cur:=c } :=
  { k.up (show B<=B+1 by omega) with text:=ht }
theorem pH.back (k:pH B e) (r:Bool):pH (B+1) (dY e r).1:=by
  cases r
  · unfold dY ny;rw[if_neg (by decide)]
    rcases hw:e.u.were.getLast? with _|x
    · exact⟨Fp k.inv,k.mode,k.now,k.were,k.gone,k.cnt⟩
    · obtain⟨ys,hy⟩:=List.getLast?_eq_some_iff.1 hw;have hx:=k.were x (by rw[hy];simp);have hc:=k.cnt;rw[hy,List.length_append] at hc;dsimp only;rw[uX (by exact k.mode)];refine⟨Fo k.inv hx _,k.mode,hx,fun y q=>k.were y (List.dropLast_subset _ q),fun y q=>?_,?_⟩
      · rcases List.mem_append.1 q with q|q
        · exact k.gone y q
        · rw[List.mem_singleton] at q;subst q;exact k.now
      · show e.u.were.dropLast.length+(e.u.gone++[_]).length<=100
        rw[hy,List.dropLast_concat,List.length_append];simp at hc ⊢;omega
  · unfold dY jV;rw[if_pos rfl]
    rcases hw:e.u.gone.getLast? with _|x
    · exact⟨Fp k.inv,k.mode,k.now,k.were,k.gone,k.cnt⟩
    · obtain⟨ys,hy⟩:=List.getLast?_eq_some_iff.1 hw;have hx:=k.gone x (by rw[hy];simp);have hc:=k.cnt;rw[hy,List.length_append] at hc;dsimp only;rw[uX (by exact k.mode)];refine⟨Fo k.inv hx _,k.mode,hx,fun y q=>?_,fun y q=>k.gone y (List.dropLast_subset _ q),?_⟩
      · rcases List.mem_append.1 q with q|q
        · exact k.were y q
        · rw[List.mem_singleton] at q;subst q;exact k.now
      · show (e.u.were++[_]).length+e.u.gone.dropLast.length<=100
        rw[hy,List.dropLast_concat,List.length_append];simp at hc ⊢;omega
def BS (e:nr):nr:=⟨{ e.s with last:=0,mark:= -1,mode:=if e.s.mode=3 then 2 else e.s.mode },e.u⟩
theorem pH.set (k:pH B e):pH B (BS e) :=
  ⟨{ k.inv with },by show (if e.s.mode=3 then (2:Int) else e.s.mode)=0;rw[k.mode];decide,k.now,k.were,k.gone,k.cnt⟩
theorem Kk (k:pH B e){t:By}(c g:Int):(∀x∈(yu e.u t c g).were,x.1.length<=16384)/\(yu e.u t c g).were.length<=100:=by
  have hc:=k.cnt;unfold yu;dsimp only;split
  · refine⟨fun x q=>?_,by rw[List.length_drop,List.length_append];simp;omega⟩
    rcases List.mem_append.1 (List.mem_of_mem_drop q) with q|q
    · exact k.were x q
    · rw[List.mem_singleton] at q;subst q;exact k.now
  · exact⟨k.were,by omega⟩
theorem xD (e:nr) (r:Bool) (n:Int):oy e r n=gJ (min (max n 0) 100).toNat (BS e) r:=rfl
theorem C6 {n:Nat}{r:Bool}(h:(dY e r).2=true):gJ (n+1) e r=gJ n (dY e r).1 r:=by rw[gJ,if_pos h]
theorem EJ {n:Nat}{r:Bool}(h:(dY e r).2=false):gJ (n+1) e r=(dY e r).1:=by rw[gJ,if_neg (by rw[h];decide)]
def Kf (e:nr) (c:Cm):Prop:=e.s.mode=0/\(dh e.s c).mode=0/\e.u.were.length<100/\(c.kind=2->(dh e.s c).from_<=1000000)/\0<=oh e.s (dh e.s c) c
end
end Go.Proofs.YtpjgdgdnbkjoiaaGreatDoor
namespace Go.Proofs.YtpjgdgdnbkjoiaaGreatDoor
open Go.Proofs.Tryz
open Go Go.Lw
set_option maxRecDepth 20000
section
variable {B base eb:Nat}{e:nr}{c:Cm}{Z:Nat->Prop}{h:ai}
theorem pH.do (k:pH B e) (hk:jM c) (hm:(dh e.s c).mode=0):pH (B+20000) (yF e c):=by
 have hA:=(xR k.inv hk).1;obtain⟨h1,h2⟩:=Kk k (t:=(dh e.s c).text) (dh e.s c).cur (oh e.s (dh e.s c) c);unfold yF;dsimp only;refine⟨hA.inv,hm,?_,?_,?_,?_⟩<;>dsimp only<;>split
 · exact hA.inv.text
 · split
   · exact hA.inv.text
   · exact k.now
 · intro x q;cases q
 · split
   · exact h1
   · exact k.were
 · intro x q;cases q
 · split
   · intro x q;cases q
   · exact k.gone
 · exact Nat.zero_le _
 · split
   · exact h2
   · exact k.cnt
section
variable {Z:Nat->Prop}{base:Nat}{h h':ai}{eb db ub:Nat}{wv gv wv' gv' tv rv hv lv fv:Value}{n:Int}{s:MS}{u u':Bw}
theorem fV.Qq (k:fV Z h ub wv gv u) (x:Ext (fun y=>y=eb\/y=db) h h') (te:bD h eb 57) (td:bD h db 94):fV Z h' ub wv gv u:=by
 have kub:bD h ub 88:=by obtain⟨_,kk,_⟩:=k.blk;exact kk.ty
 exact k.ext' x (fun q=>q.elim (fun q=>kub.ne te (by decide) q) (fun q=>kub.ne td (by decide) q)) (fun b q q2=>q2.elim (fun q2=>(k.yS b q).ne te (by decide) q2) (fun q2=>(k.yS b q).ne td (by decide) q2)) (fun b q q2=>q2.elim (fun q2=>(k.CC b q).ne te (by decide) q2) (fun q2=>(k.CC b q).ne td (by decide) q2)) (fun b q=>q.elim (fun q=>q▸dO te (by decide) (by decide)) (fun q=>q▸dO td (by decide) (by decide)))
theorem ID (x:Ext (fun y=>y=eb\/y=db) h h') (te:bD h eb 57) (td:bD h db 94):Mv (Ot Z h) (Ot Z h') h h' :=
 iR x (fun b q=>q.elim (fun q=>q▸dO te (by decide) (by decide)) (fun q=>q▸dO td (by decide) (by decide)))
theorem qZ.Ny (k:qZ Z base h eb db ub wv gv tv rv hv lv fv n s u):¬q9 ub wv gv eb/\¬q9 ub wv gv db/\∀y,q9 ub wv gv y->Ot Z h y:=by
 refine⟨fun q=>?_,fun q=>?_,fun y q=>?_⟩
 · rcases q with q|q|q
   · exact k.Lq.ne k.blk.ty (by decide) q.symm
   · exact(k.un.yS _ q).ne k.blk.ty (by decide) rfl
   · exact(k.un.CC _ q).ne k.blk.ty (by decide) rfl
 · rcases q with q|q|q
   · exact k.Lq.ne k.Ba (by decide) q.symm
   · exact(k.un.yS _ q).ne k.Ba (by decide) rfl
   · exact(k.un.CC _ q).ne k.Ba (by decide) rfl
 · rcases q with q|q|q
   · exact q▸dO k.Lq (by decide) (by decide)
   · exact dO (k.un.yS y q) (by decide) (by decide)
   · exact dO (k.un.CC y q) (by decide) (by decide)
theorem qZ.HO (k:qZ Z base h eb db ub wv gv tv rv hv lv fv n s u) (x:Ext (q9 ub wv gv) h h') (un:fV Z h' ub wv' gv' u') (hun:∀b,q9 ub wv' gv' b->q9 ub wv gv b\/h.size<=b):qZ Z base h' eb db ub wv' gv' tv rv hv lv fv n s u':=by
 obtain⟨ne1,ne2,ho⟩:=k.Ny
 have hmk:∀y,uZ Z eb db ub wv' gv' y->uZ Z eb db ub wv gv y\/h.size<=y:=fun y q=>by
  rcases q with q|q|q|q
  · exact .inl (.inl q)
  · exact .inl (.inr (.inl q))
  · exact(hun y q).imp (fun q=>.inr (.inr (.inl q))) (fun q=>q)
  · exact .inl (.inr (.inr (.inr q)))
 have hbe:=k.low eb (.inl rfl);have hbl:=k.blk.lt;refine⟨k.blk.ext x ne1,k.txt.mv (iR x ho),un,k.doc.others x (fun y q=>⟨.inr (.inr (.inl q)),fun q2=>ne2 (q2▸q)⟩) hmk,k.ms.mv (Mv.cL x fun y hy q=>⟨fun q2=>q (.inr (.inr (.inl q2))),fun q2=>?_⟩),fun y q=>?_,fun y q=>(k.zt y q).ext x (fun q2=>(k.ty y (.inr (.inr (.inl q2)))).ns (k.zt y q) rfl)⟩
 · rcases hmk y q2 with q2|q2
   · exact q q2
   · omega
 · rcases q with q|q|q|q
   · exact k.low y (.inl q)
   · exact k.low y (.inr (.inl q))
   · rcases hun y q with q|q
     · exact k.low y (.inr (.inr (.inl q)))
     · omega
   · exact q.elim
theorem qZ.cells {t:MS}(K:qZ Z base h eb db ub wv gv tv rv hv lv fv n s u) (k:aE h' eb 57 (KT t rv hv lv fv tv ub db)) (x:Ext (fun y=>y=eb) h h') (h0:t.text=s.text) (h1:t.ring=s.ring) (h2:t.hist=s.hist) (h3:t.lines=s.lines) (h4:t.flags=s.flags):qZ Z base h' eb db ub wv gv tv rv hv lv fv n t u :=
 sN k x K.blk.ty (h0▸K.txt) K.un (h0▸K.doc) (K.ms.of h1 h2 h3 h4) K.low K.zt
end
theorem EK (k:fZ Z base h eb e) (redo:Bool) (hI:pH B e) (hB:B<=5000000) :
 af Tryz.prog 41 #[.pointer (some ⟨eb,0,none⟩),.bool redo] h (aX fun r h'=>r= .bool (dY e redo).2/\fZ Z base h' eb (dY e redo).1/\Ext (pg base h) h h'):=by
 obtain⟨db,ub,wv,gv,tv,rv,hv,lv,fv,n,K⟩:=k;obtain⟨s,u⟩:=e;dsimp only at K;obtain⟨xa,xn,xc,rfl,_⟩:=K.ms.ring.open;obtain⟨ya,yn,yc,rfl,_⟩:=K.ms.hist.open;obtain⟨za,zn,zc,rfl,_⟩:=K.ms.lines.open;obtain⟨ua,un,uc,rfl,_⟩:=K.ms.flags.open;have htx:s.text.length<=16384:=hI.inv.text;have hcn:u.were.length+u.gone.length<=100:=hI.cnt;have hb0:0<=s.bells:=hI.inv.bell0;have hb1:s.bells<=(B:Nat):=hI.inv.bell1;refine af.of func41 rfl rfl ?_;refine b9 func41 1 [0,1,4] rfl ?_;refine b9 func41 3 [0,1,4,5,6,7] rfl ?_;refine aC rfl ?_;refine b9 func41 1 [0,1,4,5,6,7,9] rfl ?_;cases redo
 · refine aA rfl rfl (fun hc=>absurd hc (by decide)) (fun _=>?_);refine G.eM func41 rfl ?_;refine eU 2 rfl rfl (aa (off:=20) underlying57 rfl rfl H.Mf rfl) ?_;refine xp rfl (au H.M4 rfl (K.blk.cell (i:=20) rfl)) ?_;refine xo rfl (ay (vs:=[_]) func86 rfl H.Pm rfl (af.cD (Dv K.un (by omega) (by omega)))) ?_;rintro r1 h1 ⟨hr,x1⟩
   rcases hr with ⟨hn,rfl,rfl⟩|⟨u',tu,wv',gv',hu,rfl,kt1,un1,hun⟩
   · have hE:dY ⟨s,u⟩ false=(⟨{ s with bells:=s.bells+1 },u⟩,false):=by unfold dY;simp[hn]
     rw[hE];refine cV 7 [0,1,4,5,6,7,9] rfl ?_;refine aC rfl ?_;refine b9 func41 2 [0,1,4,5,6,7,9,29] rfl ?_;refine aA rfl rfl (fun _=>?_) (fun hc=>absurd hc (by decide));refine eB func41 2 rfl ?_;refine xp rfl (aa (off:=0) underlying57 rfl rfl H.cn rfl) ?_;refine xp rfl (aa (off:=18) underlying31 rfl rfl H.ck rfl) ?_;refine xp rfl (au H.gS rfl (K.blk.cell (i:=18) rfl)) ?_;refine xp rfl (an.dm rfl rfl ⟨by omega,by omega⟩) ?_;refine eU 1 rfl rfl (aa (off:=0) underlying57 rfl rfl H.cn rfl) ?_;refine xp rfl (aa (off:=18) underlying31 rfl rfl H.ck rfl) ?_;refine RW.fS rfl rfl rfl (az.aO H.ck rfl rfl K.blk (by first|decide|exact of_decide_eq_true rfl|(simp;done)|(simp;omega)) rfl) ?_;rintro _ h3 ⟨rfl,k3,x3,z3⟩;refine xd [0,1,4,5,6,7,9,29] rfl ?_;refine b9 func41 1 [0,1,4,5,6,7,9,29] rfl ?_;refine bM func41 rfl rfl ?_;exact⟨_,rfl,rfl,⟨db,ub,wv,gv,tv,_,_,_,_,n,K.cells k3 x3 rfl rfl rfl rfl rfl⟩,x3.mono fun y _ q=>K.ty y (.inl q)⟩
   · have hE:dY ⟨s,u⟩ false=(⟨{ s with text:=u'.t,cur:=(fG u'.t u'.c:Nat) },u'⟩,true):=by
      have:=uX (t:= { s with text:=u'.t,cur:=(fG u'.t u'.c:Nat) }) hI.mode;unfold dY;simp[hu,this]
     have hlt:u'.t.length<=16384:=by have:=(hI.back false).now;rw[hE] at this;exact this
     rw[hE];have K1:=K.HO x1 un1 hun;obtain⟨bu,vu,lu,rfl,_⟩:=id kt1;refine cV 7 [0,1,4,5,6,7,9] rfl ?_;refine aC rfl ?_;refine b9 func41 2 [0,1,4,5,6,7,9,29] rfl ?_;refine aA rfl rfl (fun hc=>absurd hc (by decide)) (fun _=>?_);refine aR rfl ?_;refine eB func41 1 rfl ?_;refine xo rfl (ay (vs:=[_]) func87 rfl H.N1 rfl (af.cD (pY kt1 (by omega)))) ?_;rintro _ h2 ⟨rfl,e2⟩;have K2:=K1.aj e2;have kb2:aE h2 eb 57 (sP s (.slice xa xn xc) (.slice ya yn yc) (.slice za zn zc) (.slice ua un uc)++[tv,.pointer (some ⟨ub,0,none⟩),.pointer (some ⟨db,0,none⟩),.int .i64 0,.bool false,.int .i64 0,.int .i32 0]):=K2.blk;have hch:=mJ kb2 K2.txt K2.doc u'.t htx hlt K2.lt (.inl rfl) (fun q=>K2.Ba.ne K2.blk.ty (by decide) q.symm) (fun y q=>(K2.zt y q).lt);refine cV 1 [0,1,4,5,6,7,8,9,29] rfl ?_;refine eB func41 2 rfl ?_;refine xo rfl (ay (vs:=[_,_]) func24 rfl H.Mx rfl (af.cD (hch))) ?_;rintro _ h3 ⟨⟨tv',kb3,kt3,m,kd3⟩,x3⟩;have kt23:=(kt1.mv (Mv.DV e2)).mv (ID x3 K2.blk.ty K2.Ba);have un3:=K2.un.Qq x3 K2.blk.ty K2.Ba;have hT3:vf (uZ Z eb db ub wv' gv') h3 s (.slice xa xn xc) (.slice ya yn yc) (.slice za zn zc) (.slice ua un uc):=K2.ms.mv (Mv.cL x3 fun y hy q=>⟨fun q2=>q2.elim (fun q2=>q (.inl q2)) (fun q2=>q (.inr (.inl q2))),q⟩);have hfx:=fun {g:ai}=>lF (h:=g) u'.t u'.c (by omega)
     refine xd [0,1,4,5,6,7,8,9,29] rfl ?_;refine eB func41 3 rfl ?_;refine xp rfl (aa (off:=19) underlying57 rfl rfl H.vw rfl) ?_;refine RW.fS rfl rfl rfl (az.aO H.vw rfl rfl kb3 (by first|decide|exact of_decide_eq_true rfl|(simp;done)|(simp;omega)) rfl) ?_;rintro _ h4 ⟨rfl,k4,x4,z4⟩;refine xd [0,1,4,5,6,7,8,9,29] rfl ?_;refine eB func41 5 rfl ?_;refine xo rfl (ay (vs:=[_,_]) func42 rfl H.Kw rfl (af.cD (hfx))) ?_;rintro _ h5 ⟨rfl,e5⟩;refine eU 1 rfl rfl (aa (off:=0) underlying57 rfl rfl H.cn rfl) ?_;refine xp rfl (aa (off:=0) underlying31 rfl rfl H.lS rfl) ?_;refine RW.fS rfl rfl rfl (az.aO H.lS rfl rfl (k4.aj e5) (by first|decide|exact of_decide_eq_true rfl|(simp;done)|(simp;omega)) rfl) ?_;rintro _ h6 ⟨rfl,k6,x6,z6⟩;refine eU 1 rfl rfl (aa (off:=0) underlying57 rfl rfl H.cn rfl) ?_;refine xp rfl (aa (off:=1) underlying31 rfl rfl H.ck rfl) ?_;refine RW.fS rfl rfl rfl (az.aO H.ck rfl rfl k6 (by first|decide|exact of_decide_eq_true rfl|(simp;done)|(simp;omega)) rfl) ?_;rintro _ h7 ⟨rfl,k7,x7,z7⟩;have k7:aE h7 eb 57 (KT { s with text:=u'.t,cur:=(fG u'.t u'.c:Nat) } (.slice xa xn xc) (.slice ya yn yc) (.slice za zn zc) (.slice ua un uc) (.pointer (some ⟨bu,0,none⟩)) ub db):=k7;have hM8:¬Array.size h7<=eb:=by have:=k7.lt;omega
     have c2:cellAt h7 ⟨eb,0+2,none⟩=some (.int .i64 s.mode):=k7.cell (i:=2) rfl;refine xd [0,1,4,5,6,7,8,9,29] rfl ?_;refine aC rfl ?_;refine aC rfl ?_;refine G.pq [(95,.bool false)] [(0,_),(1,_),(4,_),(5,_),(6,_),(7,_),(8,_),(9,_),(29,_)] ⟨rfl,rfl,rfl,rfl,rfl,rfl,rfl,rfl,rfl,trivial⟩ (fun b=>Array.size h7<=b) (fun i=>Nat.blt i 36) (sz:=36) (listed:= #[false,false,false,false,false,false,false,false,false,false,false,false,false,false,false,false,false,false,false,false,false,false,false,false,false,false,false,false,false,false,false,false,false,false,false,false]) func41 H.mixed rfl rfl rfl ?_ ?_
     · refine aP 0 1 (by kernel_rfl) rfl ?_;refine aP 1 3 (by kernel_rfl) rfl ?_;refine cj 2 7 (by kernel_rfl) rfl (fun h' e=>aa (off:=0) underlying57 rfl rfl H.cn rfl) ?_;refine cj 3 15 (by kernel_rfl) rfl (fun h' e=>aa (off:=2) underlying31 rfl rfl H.ck rfl) ?_;refine cj 4 31 (by kernel_rfl) rfl (fun h' e=>au H.gS rfl (e.cell hM8 c2)) ?_;refine aP 5 63 (by kernel_rfl) rfl ?_;refine aP 6 127 (by kernel_rfl) rfl ?_;refine RD.dK (d:=66) (b':=false) rfl (decide_eq_false (by have:=hI.mode;simp only at this;omega)) ?_;refine dw 7 255 (by kernel_rfl) rfl ?_;refine dw 8 511 (by kernel_rfl) rfl ?_;refine dw 9 1023 (by kernel_rfl) rfl ?_;refine dw 10 2047 (by kernel_rfl) rfl ?_;refine dw 11 4095 (by kernel_rfl) rfl ?_;refine dw 12 8191 (by kernel_rfl) rfl ?_;refine dw 13 16383 (by kernel_rfl) rfl ?_;refine dw 14 32767 (by kernel_rfl) rfl ?_;refine dw 15 65535 (by kernel_rfl) rfl ?_;refine dw 16 131071 (by kernel_rfl) rfl ?_;refine dw 17 262143 (by kernel_rfl) rfl ?_;refine dw 18 524287 (by kernel_rfl) rfl ?_;refine dw 19 1048575 (by kernel_rfl) rfl ?_;refine aP 20 2097151 (by kernel_rfl) rfl ?_;refine aP 21 4194303 (by kernel_rfl) rfl ?_;refine dw 22 8388607 (by kernel_rfl) rfl ?_;refine dw 23 16777215 (by kernel_rfl) rfl ?_;refine dw 24 33554431 (by kernel_rfl) rfl ?_;refine dw 25 67108863 (by kernel_rfl) rfl ?_;refine dw 26 134217727 (by kernel_rfl) rfl ?_;refine dw 27 268435455 (by kernel_rfl) rfl ?_;refine dw 28 536870911 (by kernel_rfl) rfl ?_;refine dw 29 1073741823 (by kernel_rfl) rfl ?_;refine dw 30 2147483647 (by kernel_rfl) rfl ?_;refine dw 31 4294967295 (by kernel_rfl) rfl ?_;refine dw 32 8589934591 (by kernel_rfl) rfl ?_;refine dw 33 17179869183 (by kernel_rfl) rfl ?_;refine dw 34 34359738367 (by kernel_rfl) rfl ?_;refine aP 35 68719476735 (by kernel_rfl) rfl ?_;refine RD.done (by kernel_rfl) ?_;exact⟨rfl,aq rfl (rfl),rfl,rfl,rfl,rfl,rfl,rfl,rfl,rfl,rfl,trivial⟩
     · refine aA rfl rfl (fun hc=>absurd hc (by decide)) (fun _=>?_);refine aR rfl ?_;refine b9 func41 1 [0,1,4,5,6,7,8,9,29,95] rfl ?_;refine bM func41 rfl rfl ?_;have xe:Ext (fun y=>y=eb) h3 h7:=((x4.trans (ak.of e5)).trans x6).trans x7;exact⟨_,rfl,rfl,⟨db,ub,wv',gv',_,_,_,_,_,m,sN k7 xe kb3.ty kt23 un3 kd3 (hT3.of rfl rfl rfl rfl) K2.low (fun y q=>(K2.zt y q).ext x3 (fun q2=>(K2.ty y (q2.imp (fun q=>q) (fun q=>.inl q))).ns (K2.zt y q) rfl))⟩,(((x1.mono fun y _ q=>K.ty y (.inr (.inr (.inl q)))).trans (ak.of e2)).trans (x3.mono fun y hy q=>pg.back ((x1.mono fun y _ q=>K.ty y (.inr (.inr (.inl q)))).trans (ak.of e2)) y (by have:=(K.lt eb (.inl rfl));have:=(K.lt db (.inr (.inl rfl)));rcases q with q|q<;>omega) (K2.ty y (q.imp (fun q=>q) (fun q=>.inl q))))).trans (xe.mono fun y _ q=>K.ty y (.inl q))⟩
 · refine aA rfl rfl (fun _=>?_) (fun hc=>absurd hc (by decide));refine G.eM func41 rfl ?_;refine eU 2 rfl rfl (aa (off:=20) underlying57 rfl rfl H.Mf rfl) ?_;refine xp rfl (au H.M4 rfl (K.blk.cell (i:=20) rfl)) ?_;refine xo rfl (ay (vs:=[_]) func85 rfl H.Pn rfl (af.cD (DQ K.un (by omega) (by omega)))) ?_;rintro r1 h1 ⟨hr,x1⟩
   rcases hr with ⟨hn,rfl,rfl⟩|⟨u',tu,wv',gv',hu,rfl,kt1,un1,hun⟩
   · have hE:dY ⟨s,u⟩ true=(⟨{ s with bells:=s.bells+1 },u⟩,false):=by unfold dY;simp[hn]
     rw[hE];refine cV 7 [0,1,4,5,6,7,9] rfl ?_;refine aC rfl ?_;refine b9 func41 2 [0,1,4,5,6,7,9,29] rfl ?_;refine aA rfl rfl (fun _=>?_) (fun hc=>absurd hc (by decide));refine eB func41 2 rfl ?_;refine xp rfl (aa (off:=0) underlying57 rfl rfl H.cn rfl) ?_;refine xp rfl (aa (off:=18) underlying31 rfl rfl H.ck rfl) ?_;refine xp rfl (au H.gS rfl (K.blk.cell (i:=18) rfl)) ?_;refine xp rfl (an.dm rfl rfl ⟨by omega,by omega⟩) ?_;refine eU 1 rfl rfl (aa (off:=0) underlying57 rfl rfl H.cn rfl) ?_;refine xp rfl (aa (off:=18) underlying31 rfl rfl H.ck rfl) ?_;refine RW.fS rfl rfl rfl (az.aO H.ck rfl rfl K.blk (by first|decide|exact of_decide_eq_true rfl|(simp;done)|(simp;omega)) rfl) ?_;rintro _ h3 ⟨rfl,k3,x3,z3⟩;refine xd [0,1,4,5,6,7,9,29] rfl ?_;refine b9 func41 1 [0,1,4,5,6,7,9,29] rfl ?_;refine bM func41 rfl rfl ?_;exact⟨_,rfl,rfl,⟨db,ub,wv,gv,tv,_,_,_,_,n,K.cells k3 x3 rfl rfl rfl rfl rfl⟩,x3.mono fun y _ q=>K.ty y (.inl q)⟩
   · have hE:dY ⟨s,u⟩ true=(⟨{ s with text:=u'.t,cur:=(fG u'.t u'.c:Nat) },u'⟩,true):=by
      have:=uX (t:= { s with text:=u'.t,cur:=(fG u'.t u'.c:Nat) }) hI.mode;unfold dY;simp[hu,this]
     have hlt:u'.t.length<=16384:=by have:=(hI.back true).now;rw[hE] at this;exact this
     rw[hE];have K1:=K.HO x1 un1 hun;obtain⟨bu,vu,lu,rfl,_⟩:=id kt1;refine cV 7 [0,1,4,5,6,7,9] rfl ?_;refine aC rfl ?_;refine b9 func41 2 [0,1,4,5,6,7,9,29] rfl ?_;refine aA rfl rfl (fun hc=>absurd hc (by decide)) (fun _=>?_);refine aR rfl ?_;refine eB func41 1 rfl ?_;refine xo rfl (ay (vs:=[_]) func87 rfl H.N1 rfl (af.cD (pY kt1 (by omega)))) ?_;rintro _ h2 ⟨rfl,e2⟩;have K2:=K1.aj e2;have kb2:aE h2 eb 57 (sP s (.slice xa xn xc) (.slice ya yn yc) (.slice za zn zc) (.slice ua un uc)++[tv,.pointer (some ⟨ub,0,none⟩),.pointer (some ⟨db,0,none⟩),.int .i64 0,.bool false,.int .i64 0,.int .i32 0]):=K2.blk;have hch:=mJ kb2 K2.txt K2.doc u'.t htx hlt K2.lt (.inl rfl) (fun q=>K2.Ba.ne K2.blk.ty (by decide) q.symm) (fun y q=>(K2.zt y q).lt);refine cV 1 [0,1,4,5,6,7,8,9,29] rfl ?_;refine eB func41 2 rfl ?_;refine xo rfl (ay (vs:=[_,_]) func24 rfl H.Mx rfl (af.cD (hch))) ?_;rintro _ h3 ⟨⟨tv',kb3,kt3,m,kd3⟩,x3⟩;have kt23:=(kt1.mv (Mv.DV e2)).mv (ID x3 K2.blk.ty K2.Ba);have un3:=K2.un.Qq x3 K2.blk.ty K2.Ba;have hT3:vf (uZ Z eb db ub wv' gv') h3 s (.slice xa xn xc) (.slice ya yn yc) (.slice za zn zc) (.slice ua un uc):=K2.ms.mv (Mv.cL x3 fun y hy q=>⟨fun q2=>q2.elim (fun q2=>q (.inl q2)) (fun q2=>q (.inr (.inl q2))),q⟩);have hfx:=fun {g:ai}=>lF (h:=g) u'.t u'.c (by omega)
     refine xd [0,1,4,5,6,7,8,9,29] rfl ?_;refine eB func41 3 rfl ?_;refine xp rfl (aa (off:=19) underlying57 rfl rfl H.vw rfl) ?_;refine RW.fS rfl rfl rfl (az.aO H.vw rfl rfl kb3 (by first|decide|exact of_decide_eq_true rfl|(simp;done)|(simp;omega)) rfl) ?_;rintro _ h4 ⟨rfl,k4,x4,z4⟩;refine xd [0,1,4,5,6,7,8,9,29] rfl ?_;refine eB func41 5 rfl ?_;refine xo rfl (ay (vs:=[_,_]) func42 rfl H.Kw rfl (af.cD (hfx))) ?_;rintro _ h5 ⟨rfl,e5⟩;refine eU 1 rfl rfl (aa (off:=0) underlying57 rfl rfl H.cn rfl) ?_;refine xp rfl (aa (off:=0) underlying31 rfl rfl H.lS rfl) ?_;refine RW.fS rfl rfl rfl (az.aO H.lS rfl rfl (k4.aj e5) (by first|decide|exact of_decide_eq_true rfl|(simp;done)|(simp;omega)) rfl) ?_;rintro _ h6 ⟨rfl,k6,x6,z6⟩;refine eU 1 rfl rfl (aa (off:=0) underlying57 rfl rfl H.cn rfl) ?_;refine xp rfl (aa (off:=1) underlying31 rfl rfl H.ck rfl) ?_;refine RW.fS rfl rfl rfl (az.aO H.ck rfl rfl k6 (by first|decide|exact of_decide_eq_true rfl|(simp;done)|(simp;omega)) rfl) ?_;rintro _ h7 ⟨rfl,k7,x7,z7⟩;have k7:aE h7 eb 57 (KT { s with text:=u'.t,cur:=(fG u'.t u'.c:Nat) } (.slice xa xn xc) (.slice ya yn yc) (.slice za zn zc) (.slice ua un uc) (.pointer (some ⟨bu,0,none⟩)) ub db):=k7;have hM8:¬Array.size h7<=eb:=by have:=k7.lt;omega
     have c2:cellAt h7 ⟨eb,0+2,none⟩=some (.int .i64 s.mode):=k7.cell (i:=2) rfl;refine xd [0,1,4,5,6,7,8,9,29] rfl ?_;refine aC rfl ?_;refine aC rfl ?_;refine G.pq [(95,.bool false)] [(0,_),(1,_),(4,_),(5,_),(6,_),(7,_),(8,_),(9,_),(29,_)] ⟨rfl,rfl,rfl,rfl,rfl,rfl,rfl,rfl,rfl,trivial⟩ (fun b=>Array.size h7<=b) (fun i=>Nat.blt i 36) (sz:=36) (listed:= #[false,false,false,false,false,false,false,false,false,false,false,false,false,false,false,false,false,false,false,false,false,false,false,false,false,false,false,false,false,false,false,false,false,false,false,false]) func41 H.mixed rfl rfl rfl ?_ ?_
     · refine aP 0 1 (by kernel_rfl) rfl ?_;refine aP 1 3 (by kernel_rfl) rfl ?_;refine cj 2 7 (by kernel_rfl) rfl (fun h' e=>aa (off:=0) underlying57 rfl rfl H.cn rfl) ?_;refine cj 3 15 (by kernel_rfl) rfl (fun h' e=>aa (off:=2) underlying31 rfl rfl H.ck rfl) ?_;refine cj 4 31 (by kernel_rfl) rfl (fun h' e=>au H.gS rfl (e.cell hM8 c2)) ?_;refine aP 5 63 (by kernel_rfl) rfl ?_;refine aP 6 127 (by kernel_rfl) rfl ?_;refine RD.dK (d:=66) (b':=false) rfl (decide_eq_false (by have:=hI.mode;simp only at this;omega)) ?_;refine dw 7 255 (by kernel_rfl) rfl ?_;refine dw 8 511 (by kernel_rfl) rfl ?_;refine dw 9 1023 (by kernel_rfl) rfl ?_;refine dw 10 2047 (by kernel_rfl) rfl ?_;refine dw 11 4095 (by kernel_rfl) rfl ?_;refine dw 12 8191 (by kernel_rfl) rfl ?_;refine dw 13 16383 (by kernel_rfl) rfl ?_;refine dw 14 32767 (by kernel_rfl) rfl ?_;refine dw 15 65535 (by kernel_rfl) rfl ?_;refine dw 16 131071 (by kernel_rfl) rfl ?_;refine dw 17 262143 (by kernel_rfl) rfl ?_;refine dw 18 524287 (by kernel_rfl) rfl ?_;refine dw 19 1048575 (by kernel_rfl) rfl ?_;refine aP 20 2097151 (by kernel_rfl) rfl ?_;refine aP 21 4194303 (by kernel_rfl) rfl ?_;refine dw 22 8388607 (by kernel_rfl) rfl ?_;refine dw 23 16777215 (by kernel_rfl) rfl ?_;refine dw 24 33554431 (by kernel_rfl) rfl ?_;refine dw 25 67108863 (by kernel_rfl) rfl ?_;refine dw 26 134217727 (by kernel_rfl) rfl ?_;refine dw 27 268435455 (by kernel_rfl) rfl ?_;refine dw 28 536870911 (by kernel_rfl) rfl ?_;refine dw 29 1073741823 (by kernel_rfl) rfl ?_;refine dw 30 2147483647 (by kernel_rfl) rfl ?_;refine dw 31 4294967295 (by kernel_rfl) rfl ?_;refine dw 32 8589934591 (by kernel_rfl) rfl ?_;refine dw 33 17179869183 (by kernel_rfl) rfl ?_;refine dw 34 34359738367 (by kernel_rfl) rfl ?_;refine aP 35 68719476735 (by kernel_rfl) rfl ?_;refine RD.done (by kernel_rfl) ?_;exact⟨rfl,aq rfl (rfl),rfl,rfl,rfl,rfl,rfl,rfl,rfl,rfl,rfl,trivial⟩
     · refine aA rfl rfl (fun hc=>absurd hc (by decide)) (fun _=>?_);refine aR rfl ?_;refine b9 func41 1 [0,1,4,5,6,7,8,9,29,95] rfl ?_;refine bM func41 rfl rfl ?_;have xe:Ext (fun y=>y=eb) h3 h7:=((x4.trans (ak.of e5)).trans x6).trans x7;exact⟨_,rfl,rfl,⟨db,ub,wv',gv',_,_,_,_,_,m,sN k7 xe kb3.ty kt23 un3 kd3 (hT3.of rfl rfl rfl rfl) K2.low (fun y q=>(K2.zt y q).ext x3 (fun q2=>(K2.ty y (q2.imp (fun q=>q) (fun q=>.inl q))).ns (K2.zt y q) rfl))⟩,(((x1.mono fun y _ q=>K.ty y (.inr (.inr (.inl q)))).trans (ak.of e2)).trans (x3.mono fun y hy q=>pg.back ((x1.mono fun y _ q=>K.ty y (.inr (.inr (.inl q)))).trans (ak.of e2)) y (by have:=(K.lt eb (.inl rfl));have:=(K.lt db (.inr (.inl rfl)));rcases q with q|q<;>omega) (K2.ty y (q.imp (fun q=>q) (fun q=>.inl q))))).trans (xe.mono fun y _ q=>K.ty y (.inl q))⟩
theorem C5 (k:fZ Z base h eb e) (redo:Bool) (n:Int) (hI:pH B e) (hB:B<=4000000) :
 af Tryz.prog 21 #[.pointer (some ⟨eb,0,none⟩),.bool redo,.int .i64 n] h (aX fun _ h'=>fZ Z base h' eb (oy e redo n)/\Ext (pg base h) h h'):=by
 obtain⟨N,hN,hN1⟩:∃N:Nat,(if 100<(if n<0 then 0 else n) then 100 else (if n<0 then 0 else n))=(N:Int)/\N<=100:=⟨(if 100<(if n<0 then 0 else n) then 100 else (if n<0 then 0 else n)).toNat,by split<;>split<;>omega,by split<;>split<;>omega⟩
 have hE:oy e redo n=gJ N (BS e) redo:=by
  rw[xD]
  congr 1
  have:(min (max n 0) 100)=(N:Int):=by rw[<-hN];split<;>split<;>omega
  rw[this];rfl
 rw[hE];have hI0:=hI.set;obtain⟨db,ub,wv,gv,tv,rv,hv,lv,fv,m,K⟩:=k;have hmode:=hI.mode
 have hset:BS e=⟨{ e.s with last:=0,mark:= -1 },e.u⟩:=by
  unfold BS;rw[if_neg (by omega)]
 obtain⟨xa,xn,xc,rfl,_⟩:=K.ms.ring.open;obtain⟨ya,yn,yc,rfl,_⟩:=K.ms.hist.open;obtain⟨za,zn,zc,rfl,_⟩:=K.ms.lines.open;obtain⟨ua,un,uc,rfl,_⟩:=K.ms.flags.open;refine af.of func21 rfl rfl ?_;refine eB func21 3 rfl ?_;refine xp rfl (aa (off:=0) underlying57 rfl rfl H.cn rfl) ?_;refine xp rfl (aa (off:=8) underlying31 rfl rfl H.ck rfl) ?_;refine RW.fS rfl rfl rfl (az.aO H.ck rfl rfl K.blk (by first|decide|exact of_decide_eq_true rfl|(simp;done)|(simp;omega)) rfl) ?_;rintro _ h1 ⟨rfl,k1,x1,z1⟩;refine eU 1 rfl rfl (aa (off:=0) underlying57 rfl rfl H.cn rfl) ?_;refine xp rfl (aa (off:=3) underlying31 rfl rfl H.ck rfl) ?_;refine RW.fS rfl rfl rfl (az.aO H.ck rfl rfl k1 (by first|decide|exact of_decide_eq_true rfl|(simp;done)|(simp;omega)) rfl) ?_;rintro _ h2 ⟨rfl,k2,x2,z2⟩;have k2:aE h2 eb 57 (KT { e.s with last:=0,mark:= -1 } (.slice xa xn xc) (.slice ya yn yc) (.slice za zn zc) (.slice ua un uc) tv ub db):=k2
 have K2:fZ Z base h2 eb (BS e):=by
  rw[hset];exact⟨db,ub,wv,gv,tv,_,_,_,_,m,K.cells k2 (x1.trans x2) rfl rfl rfl rfl rfl⟩
 have x02:Ext (pg base h) h h2:=(x1.trans x2).mono fun y _ q=>K.ty y (.inl q)
 refine xd [0,1,2] rfl ?_;refine aC rfl ?_;refine eB func21 2 rfl ?_;refine xp rfl (aa (off:=0) underlying57 rfl rfl H.cn rfl) ?_;refine xp rfl (aa (off:=2) underlying31 rfl rfl H.ck rfl) ?_;refine xp rfl (au H.gS rfl (k2.cell (i:=2) rfl)) ?_;refine cV 1 [0,1,2,19] rfl ?_;refine aA rfl rfl (fun hc=>absurd hc (by simp;omega)) (fun _=>?_);refine aR rfl ?_;refine eB func21 1 rfl ?_;refine xp rfl (an.max2 rfl rfl) ?_;refine xp rfl (an.min2 rfl rfl) ?_;refine cV 1 [0,1,2,19,26,27] rfl ?_;refine G.block rfl rfl ?_;rw[hN];generalize hF:gJ N (BS e) redo=F;refine hU (σ:=Nat) (fun i=>[(0,.pointer (some ⟨eb,0,none⟩)),(1,.bool redo),(26,.int .i64 (N:Nat)),(27,.int .i64 (i:Nat))]) (fun i h'=>∃ei,fZ Z base h' eb ei/\pH (B+i) ei/\gJ (N-i) ei redo=F/\Ext (pg base h) h h'/\i<=N) (fun i=>N-i) (0) rfl ⟨rfl,rfl,rfl,rfl,trivial⟩ ⟨BS e,K2,hI0.up (by omega),hF,x02,Nat.zero_le _⟩ ?_;rintro i h3 ⟨ei,K3,hI3,hF3,x3,hle⟩ ih;refine b9 func21 1 [0,1,26,27,28] rfl ?_;refine aC rfl ?_;refine dQ rfl rfl (fun hlt=>?_) (fun hlt=>?_)
 · have hlt':i<N:=by omega
   have hB3:gJ (N-i) ei redo=gJ (N-(i+1)+1) ei redo:=by rw[show N-(i+1)+1=N-i by omega]
   refine aR rfl ?_;refine aC rfl ?_;refine G.block rfl rfl ?_;refine eB func21 2 rfl ?_;refine xo rfl (ay (vs:=[_,_]) func41 rfl H.PE rfl (af.cD (EK K3 redo hI3 (by omega)))) ?_;rintro _ h4 ⟨rfl,K4,x4⟩;refine cV 1 [0,1,26,27,28,32] rfl ?_;refine aA rfl rfl (fun hb=>?_) (fun hb=>?_)
   · refine bM func21 rfl rfl ?_;rw[hB3,EJ (by simpa using hb)] at hF3;exact⟨_,rfl,hF3▸K4,pg.trans x3 x4⟩
   · rw[hB3,C6 (by simpa using hb)] at hF3;refine aR rfl ?_;refine G.cz ?_;refine G.eM func21 rfl ?_;refine xp rfl (an.dm rfl rfl ⟨by omega,by omega⟩) ?_;refine cV 1 [0,1,26,27,28,32] rfl ?_;exact ih (i+1) _ _ ⟨rfl,rfl,rfl,rfl,trivial⟩ ⟨_,K4,hI3.back redo,hF3,pg.trans x3 x4,hlt'⟩ (by omega)
 · refine jb rfl rfl ?_;refine G.G2 func21 rfl ?_;rw[show N-i=0 by omega] at hF3;exact⟨_,rfl,hF3▸K3,x3⟩
theorem BB (k:fZ Z base h eb e) (c:Cm) (hk:c.kind=12\/c.kind=13) (hI:pH B e) (hB:B<=4000000) :
 af Tryz.prog 7 #[.pointer (some ⟨eb,0,none⟩),HE c] h (aX fun _ h'=>fZ Z base h' eb (oy e (decide (c.kind=13)) c.n)/\Ext (pg base h) h h'):=by
 obtain⟨db,ub,wv,gv,tv,rv,hv,lv,fv,m,K⟩:=id k;have hmode:=hI.mode;refine af.of func7 rfl rfl ?_;refine xr func7 rfl ?_;refine xo rfl (az.iQ rfl) ?_;rintro _ h1 ⟨rfl,k1,e1,z1⟩;have k1:aE h1 h.size 28 (Ey c):=k1;refine xd [0,1,3] rfl ?_;refine aC rfl ?_;refine G.block rfl rfl ?_;refine eB func7 1 rfl ?_;refine xo rfl (ay (vs:=[_]) func20 rfl H.uL rfl (af.cD (ow (K.aj e1).blk))) ?_;rintro _ h2 ⟨rfl,hh2⟩;refine cV 1 [0,1,3,13] rfl ?_;subst hh2;have kb2:=(K.aj e1).blk;refine aA rfl rfl (fun hc=>absurd hc (by decide)) (fun _=>?_);refine aC rfl ?_;refine G.eF [(16,.bool false)] [(0,_),(1,_),(3,_),(13,_)] ⟨rfl,rfl,rfl,rfl,trivial⟩ func7 rfl ?_ ?_
 · refine xp rfl (aa (off:=0) underlying28 rfl rfl H.ck rfl) ?_;refine xp rfl (au H.gS rfl (k1.cell (i:=0) rfl)) ?_;refine dz 2 rfl ?_;refine RW.split (d:=20) rfl (fun q1=>?_) (fun q1=>?_)
   · refine xp rfl (aa (off:=0) underlying28 rfl rfl H.ck rfl) ?_;refine xp rfl (au H.gS rfl (k1.cell (i:=0) rfl)) ?_;refine dz 3 rfl ?_;refine RW.done rfl ?_;exact⟨rfl,aq rfl (by simp at q1 ⊢;omega),rfl,rfl,rfl,rfl,trivial⟩
   · refine dz 5 rfl ?_;refine RW.done rfl ?_;exact⟨rfl,aq rfl (rfl),rfl,rfl,rfl,rfl,trivial⟩
 · refine aA rfl rfl (fun hc=>absurd hc (by decide)) (fun _=>?_);refine eB func7 2 rfl ?_;refine xp rfl (aa (off:=0) underlying57 rfl rfl H.cn rfl) ?_;refine xp rfl (aa (off:=2) underlying31 rfl rfl H.ck rfl) ?_;refine xp rfl (au H.gS rfl (kb2.cell (i:=2) rfl)) ?_;refine cV 2 [0,1,3,13,16,25] rfl ?_;refine aA rfl rfl (fun hc=>absurd hc (by simp;omega)) (fun _=>?_);refine eB func7 1 rfl ?_;refine xp rfl (aa (off:=0) underlying28 rfl rfl H.ck rfl) ?_;refine xp rfl (au H.gS rfl (k1.cell (i:=0) rfl)) ?_;refine eU 1 rfl rfl (aa (off:=2) underlying28 rfl rfl H.ck rfl) ?_;refine xp rfl (au H.gS rfl (k1.cell (i:=2) rfl)) ?_;refine xo rfl (ay (vs:=[_,_,_]) func21 rfl H.PK rfl (af.cD (C5 (k.aj e1) (decide (c.kind=13)) c.n hI hB))) ?_;rintro _ h3 ⟨K3,x3⟩;refine xd [0,1,3,13,16,25] rfl ?_;refine bM func7 rfl rfl ?_;exact⟨_,rfl,K3,pg.trans (ak.of e1) x3⟩
theorem jX (k:fZ Z base h eb e) (hI:MI B e.s) (hB:B<=5000000) :
 af Tryz.prog 8 #[.pointer (some ⟨eb,0,none⟩)] h (aX fun r h'=>(∃xa xn xc ya yn yc za zn zc ua un uc,r= .agg (sP e.s (.slice xa xn xc) (.slice ya yn yc) (.slice za zn zc) (.slice ua un uc)).toArray)/\ak h h'):=by
 obtain⟨db,ub,wv,gv,tv,rv,hv,lv,fv,m,K⟩:=k;obtain⟨s,u⟩:=e;dsimp only at K hI;obtain⟨xa,xn,xc,rfl,_⟩:=K.ms.ring.open;obtain⟨ya,yn,yc,rfl,_⟩:=K.ms.hist.open;obtain⟨za,zn,zc,rfl,_⟩:=K.ms.lines.open;obtain⟨ua,un,uc,rfl,_⟩:=K.ms.flags.open;have l1:=K.ms.ring.open_slice.len;have l2:=K.ms.hist.open_slice.len;have l3:=K.ms.lines.open_slice.len;have l4:=K.ms.flags.open_slice.len;have i2:=hI.ringn;have i3:=hI.histn;have i4:=hI.flags;have i5:=hI.linesn;refine af.of func8 rfl rfl ?_;refine xr func8 rfl ?_;refine xo rfl (az.cC H.zY) ?_;rintro _ h1 ⟨rfl,k1,e1,z1⟩;refine xd [0,2] rfl ?_;refine aC rfl ?_;refine eB func8 1 rfl ?_;refine xo rfl (ay (vs:=[_]) func20 rfl H.uL rfl (af.cD (ow (K.aj e1).blk))) ?_;rintro _ h2 ⟨rfl,hh2⟩;refine xd [0,2,5] rfl ?_;subst hh2;refine aA rfl rfl (fun hc=>absurd hc (by decide)) (fun _=>?_);have K2:=K.aj e1;refine aR rfl ?_;refine eB func8 2 rfl ?_;refine xp rfl (aa (off:=0) underlying57 rfl rfl H.cn rfl) ?_;refine xp rfl (an.aG H.iZ H.cn rfl (ju K2.blk.row) (by first|rfl|(simp;done)|(simp;omega))) ?_;refine xo rfl (az.cC H.zY) ?_;rintro _ h3 ⟨rfl,k3,e3,z3⟩;refine RW.fS rfl rfl rfl (az.aH H.cn rfl rfl k3 (by first|rfl|(simp;done)|(simp;omega)) (by first|decide|exact of_decide_eq_true rfl|(simp;done)|(simp;omega)) (ms1)) ?_;rintro _ h4 ⟨rfl,k4,x4,z4⟩;have hle:h.size<=h2.size:=e1.size;have hne:¬h.size=h2.size:=by omega
 have E:ak h h4:=ak.only (e1.trans e3) x4 hle;have k1:=(k1.aj e3).ext x4 hne;refine xd [0,2,3,5] rfl ?_;refine xr func8 rfl ?_;refine xp rfl (aa (off:=4) underlying31 rfl rfl H.nD rfl) ?_;refine xp rfl (au H.Da rfl (k4.cell (i:=4) rfl)) ?_;refine xo rfl (az.append underlying22 H.xw rfl rfl (ax.nil h4 h4.size 9 1) (show (s.ring.map ox).length=xn*1 by simp;omega) (bC.row (h1:=fun _=>rfl) (K.ms.ring.aj E)).2.1 (uY _) (by simp only[maxLen];omega) (by omega) (by omega)) ?_;rintro v5 h5 ⟨ho5,hx5,_,_⟩;obtain⟨pa,pc,rfl,_⟩:=ho5.open;have e5:ak h4 h5:=hx5.mono fun _ _ q=>by cases q
 refine xp rfl (aa (off:=4) underlying31 rfl rfl H.nD rfl) ?_;refine RW.fS rfl rfl rfl (az.aO H.nD rfl rfl (k4.aj e5) (by first|decide|exact of_decide_eq_true rfl|(simp;done)|(simp;omega)) rfl) ?_;rintro _ h6 ⟨rfl,k6,x6,z6⟩;have E:=ak.only (E.trans e5) x6 hle;have k1:=(k1.aj e5).ext x6 hne;refine xd [0,2,3,5] rfl ?_;refine xr func8 rfl ?_;refine xp rfl (aa (off:=5) underlying31 rfl rfl H.nD rfl) ?_;refine xp rfl (au H.Da rfl (k6.cell (i:=5) rfl)) ?_;refine xo rfl (az.append underlying22 H.xw rfl rfl (ax.nil h6 h6.size 9 1) (show (s.hist.map ox).length=yn*1 by simp;omega) (bC.row (h1:=fun _=>rfl) (K.ms.hist.aj E)).2.1 (uY _) (by simp only[maxLen];omega) (by omega) (by omega)) ?_;rintro v5 h5 ⟨ho5,hx5,_,_⟩;obtain⟨pa,pc,rfl,_⟩:=ho5.open;have e5:ak h6 h5:=hx5.mono fun _ _ q=>by cases q
 refine xp rfl (aa (off:=5) underlying31 rfl rfl H.nD rfl) ?_;refine RW.fS rfl rfl rfl (az.aO H.nD rfl rfl (k6.aj e5) (by first|decide|exact of_decide_eq_true rfl|(simp;done)|(simp;omega)) rfl) ?_;rintro _ h6 ⟨rfl,k6,x6,z6⟩;have E:=ak.only (E.trans e5) x6 hle;have k1:=(k1.aj e5).ext x6 hne;refine xd [0,2,3,5] rfl ?_;refine xr func8 rfl ?_;refine xp rfl (aa (off:=16) underlying31 rfl rfl H.nD rfl) ?_;refine xp rfl (au H.Da rfl (k6.cell (i:=16) rfl)) ?_;refine xo rfl (az.append underlying22 H.xw rfl rfl (ax.nil h6 h6.size 9 1) (show (s.lines.map ox).length=zn*1 by simp;omega) (bC.row (h1:=fun _=>rfl) (K.ms.lines.aj E)).2.1 (uY _) (by simp only[maxLen];omega) (by omega) (by omega)) ?_;rintro v5 h5 ⟨ho5,hx5,_,_⟩;obtain⟨pa,pc,rfl,_⟩:=ho5.open;have e5:ak h6 h5:=hx5.mono fun _ _ q=>by cases q
 refine xp rfl (aa (off:=16) underlying31 rfl rfl H.nD rfl) ?_;refine RW.fS rfl rfl rfl (az.aO H.nD rfl rfl (k6.aj e5) (by first|decide|exact of_decide_eq_true rfl|(simp;done)|(simp;omega)) rfl) ?_;rintro _ h6 ⟨rfl,k6,x6,z6⟩;have E:=ak.only (E.trans e5) x6 hle;have k1:=(k1.aj e5).ext x6 hne;refine xd [0,2,3,5] rfl ?_;refine xr func8 rfl ?_;refine xp rfl (aa (off:=17) underlying31 rfl rfl H.H6 rfl) ?_;refine xp rfl (au H.OF rfl (k6.cell (i:=17) rfl)) ?_;refine xo rfl (az.append underlying29 H.No rfl rfl (ax.nil h6 h6.size 4 1) (show (s.flags.map Value.bool).length=un*1 by simp;omega) (bC.row (h1:=fun _=>rfl) (K.ms.flags.aj E)).2.1 (fun u hu=>by obtain⟨_,_,rfl⟩:=List.mem_map.1 hu;rfl) (by simp only[maxLen];omega) (by omega) (by omega)) ?_;rintro v5 h5 ⟨ho5,hx5,_,_⟩;obtain⟨pa,pc,rfl,_⟩:=ho5.open;have e5:ak h6 h5:=hx5.mono fun _ _ q=>by cases q
 refine xp rfl (aa (off:=17) underlying31 rfl rfl H.H6 rfl) ?_;refine RW.fS rfl rfl rfl (az.aO H.H6 rfl rfl (k6.aj e5) (by first|decide|exact of_decide_eq_true rfl|(simp;done)|(simp;omega)) rfl) ?_;rintro _ h6 ⟨rfl,k6,x6,z6⟩;have E:=ak.only (E.trans e5) x6 hle;have k1:=(k1.aj e5).ext x6 hne;refine xd [0,2,3,5] rfl ?_;refine xr func8 rfl ?_;refine xp rfl (an.aG H.iZ H.cn rfl k6.row (by first|rfl|(simp;done)|(simp;omega))) ?_;refine RW.fS rfl rfl rfl (az.aH H.cn rfl rfl k1 (by first|rfl|(simp;done)|(simp;omega)) (by first|decide|exact of_decide_eq_true rfl|(simp;done)|(simp;omega)) (ms1)) ?_;rintro _ gz ⟨rfl,kz,xz,zz⟩;refine xd [0,2,3,5] rfl ?_;refine G.qu func8 rfl (.cons (cP.nM H.iZ H.cn rfl (kz.row) (by first|rfl|(simp;done)|(simp;omega))) (.nil)) ?_;exact⟨_,rfl,⟨_,_,_,_,_,_,_,_,_,_,_,_,rfl⟩,ak.only E xz (Nat.le_refl _)⟩
def EZ (h:ai) (v:Value) (c:Cm):Prop:=∃b:Nat,v= .slice (some ⟨b,0,none⟩) 1 1/\aE h b 28 (Ey c)
def AV (k r:Int):List Value:=[.int .i64 k,.int .i32 r,.string (bs [])]
def I5 (k r:Int):Value:=.agg #[.int .i64 k,.int .i32 r,.string (bs [])]
def uQ (k r:Int) (c:Cm):Prop:=(k=1/\0<=r/\r<128/\c.kind=2/\c.way=0/\c.n=1/\c.incl=false/\Utf8.encode r=bs c.text)\/(k=2/\c=⟨14,0,1,[],false⟩)\/(k=6/\r=122/\c=⟨12,0,1,[],false⟩)\/(k=7/\r=122/\c=⟨13,0,1,[],false⟩)
theorem Bh (r:Int) (h0:0<=r) (h1:r<128):af Tryz.prog 113 #[.int .i32 r] h (aX fun v h'=>v= .bool true/\h'=h):=by
 refine af.of func113 rfl rfl ?_;refine b9 func113 1 [0,2] rfl ?_;refine aC rfl ?_;refine G.block rfl rfl ?_;refine aC rfl ?_;refine G.eF [(3,.bool true)] [(0,_),(2,_)] ⟨rfl,rfl,trivial⟩ func113 rfl ?_ ?_
 · refine dz 3 rfl ?_;refine RW.dK (d:=6) (b':=true) rfl (decide_eq_true (by omega)) ?_;refine dz 4 rfl ?_;refine RW.done rfl ?_;exact⟨rfl,aq rfl (by simp;omega),rfl,rfl,trivial⟩
 · refine aA rfl rfl (fun _=>?_) (fun hc=>absurd hc (by decide));refine b9 func113 1 [0,2,3] rfl ?_;refine bM func113 rfl rfl ?_;exact⟨_,rfl,rfl,rfl⟩
theorem Ex (r:Int) (h0:0<=r) (h1:r<128):af Tryz.prog 52 #[.int .i32 r] h (aX fun v h'=>v= .string (Utf8.encode r)/\h'=h):=by
 refine af.of func52 rfl rfl ?_;refine b9 func52 1 [0,2] rfl ?_;refine aC rfl ?_;refine eB func52 1 rfl ?_;refine xo rfl (ay (vs:=[_]) func113 rfl H.N8 rfl (af.cD (Bh r h0 h1))) ?_;rintro _ h1 ⟨rfl,hh1⟩;refine cV 1 [0,2,5] rfl ?_;subst hh1;refine aA rfl rfl (fun hc=>absurd hc (by decide)) (fun _=>?_);refine aR rfl ?_;refine eB func52 1 rfl ?_;refine xp rfl (an.ME underlying21 underlying9 rfl) ?_;refine cV 1 [0,2,5] rfl ?_;refine bM func52 rfl rfl ?_;exact⟨_,rfl,rfl,rfl⟩
theorem Jx {cs:List Value}(c:Cm) (hc:cs=Ey c):EZ (h.push (.cells cs.toArray 28 (0,0))) (.slice (some ⟨h.size,0,none⟩) 1 1) c:=⟨h.size,rfl,by subst hc;unfold aE;simp⟩
theorem qw (a b n:Int):af Tryz.prog 53 #[.int .i64 a,.int .i64 b,.int .i64 n] h (aX fun v h'=>EZ h' v ⟨a,b,n,[],false⟩/\ak h h'):=by
 refine af.of func53 rfl rfl ?_;refine b9 func53 1 [0,1,2,6] rfl ?_;refine eB func53 3 rfl ?_;refine xp rfl (aB (H.EH _ _ _) rfl) ?_;refine xo rfl (az.cy (cs:=[_,_,_,_,_]) underlying72 H.Om rfl rfl (by decide)) ?_;rintro _ h1 ⟨rfl,hh1⟩;have e1:ak h h1:=by rw[hh1];exact Ext.push _ _ _
 refine cV 1 [0,1,2,6] rfl ?_;refine bM func53 rfl rfl ?_;exact⟨_,rfl,by rw[hh1];exact Jx ⟨a,b,n,[],false⟩ rfl,e1⟩
theorem Ew:af Tryz.prog 55 #[.int .i32 122,.int .i64 1] h (aX fun v h'=>EZ h' v ⟨12,0,1,[],false⟩/\ak h h'):=by
 refine af.of func55 rfl rfl ?_;refine b9 func55 1 [0,1,4] rfl ?_;refine aC rfl ?_;refine b9 func55 1 [0,1,4,5] rfl ?_;refine G.block rfl rfl ?_;refine b9 func55 2 [0,1,4,5,6] rfl ?_;refine aA rfl rfl (fun hc=>absurd hc (by decide)) (fun _=>?_);refine b9 func55 2 [0,1,4,5,6,9] rfl ?_;refine aA rfl rfl (fun hc=>absurd hc (by decide)) (fun _=>?_);refine b9 func55 2 [0,1,4,5,6,9,12] rfl ?_;refine aA rfl rfl (fun hc=>absurd hc (by decide)) (fun _=>?_);refine b9 func55 2 [0,1,4,5,6,9,12,16] rfl ?_;refine aA rfl rfl (fun hc=>absurd hc (by decide)) (fun _=>?_);refine b9 func55 2 [0,1,4,5,6,9,12,16,20] rfl ?_;refine aA rfl rfl (fun hc=>absurd hc (by decide)) (fun _=>?_);refine b9 func55 2 [0,1,4,5,6,9,12,16,20,23] rfl ?_;refine aA rfl rfl (fun hc=>absurd hc (by decide)) (fun _=>?_);refine b9 func55 2 [0,1,4,5,6,9,12,16,20,23,26] rfl ?_;refine aA rfl rfl (fun hc=>absurd hc (by decide)) (fun _=>?_);refine b9 func55 2 [0,1,4,5,6,9,12,16,20,23,26,30] rfl ?_;refine aA rfl rfl (fun hc=>absurd hc (by decide)) (fun _=>?_);refine b9 func55 2 [0,1,4,5,6,9,12,16,20,23,26,30,33] rfl ?_;refine aA rfl rfl (fun hc=>absurd hc (by decide)) (fun _=>?_);refine b9 func55 2 [0,1,4,5,6,9,12,16,20,23,26,30,33,36] rfl ?_;refine aA rfl rfl (fun hc=>absurd hc (by decide)) (fun _=>?_);refine b9 func55 2 [0,1,4,5,6,9,12,16,20,23,26,30,33,36,40] rfl ?_;refine aA rfl rfl (fun hc=>absurd hc (by decide)) (fun _=>?_);refine b9 func55 2 [0,1,4,5,6,9,12,16,20,23,26,30,33,36,40,44] rfl ?_;refine aA rfl rfl (fun hc=>absurd hc (by decide)) (fun _=>?_);refine b9 func55 2 [0,1,4,5,6,9,12,16,20,23,26,30,33,36,40,44,47] rfl ?_;refine aA rfl rfl (fun _=>?_) (fun hc=>absurd hc (by decide));refine eB func55 1 rfl ?_;refine xo rfl (ay (vs:=[_,_,_]) func53 rfl H.Mu rfl (af.cD (qw 12 0 1))) ?_;rintro v1 h1 ⟨k1,e1⟩;refine cV 1 [0,1,4,5,6,9,12,16,20,23,26,30,33,36,40,44,47] rfl ?_;refine bM func55 rfl rfl ?_;exact⟨_,rfl,k1,e1⟩
theorem Ht:af Tryz.prog 56 #[.int .i32 122,.int .i64 1] h (aX fun v h'=>EZ h' v ⟨13,0,1,[],false⟩/\ak h h'):=by
 refine af.of func56 rfl rfl ?_;refine b9 func56 1 [0,1,4] rfl ?_;refine aC rfl ?_;refine b9 func56 1 [0,1,4,5] rfl ?_;refine G.block rfl rfl ?_;refine b9 func56 2 [0,1,4,5,6] rfl ?_;refine aA rfl rfl (fun hc=>absurd hc (by decide)) (fun _=>?_);refine b9 func56 2 [0,1,4,5,6,10] rfl ?_;refine aA rfl rfl (fun hc=>absurd hc (by decide)) (fun _=>?_);refine b9 func56 2 [0,1,4,5,6,10,14] rfl ?_;refine aA rfl rfl (fun hc=>absurd hc (by decide)) (fun _=>?_);refine b9 func56 2 [0,1,4,5,6,10,14,18] rfl ?_;refine aA rfl rfl (fun hc=>absurd hc (by decide)) (fun _=>?_);refine b9 func56 2 [0,1,4,5,6,10,14,18,21] rfl ?_;refine aA rfl rfl (fun hc=>absurd hc (by decide)) (fun _=>?_);refine b9 func56 2 [0,1,4,5,6,10,14,18,21,24] rfl ?_;refine aA rfl rfl (fun hc=>absurd hc (by decide)) (fun _=>?_);refine b9 func56 2 [0,1,4,5,6,10,14,18,21,24,27] rfl ?_;refine aA rfl rfl (fun hc=>absurd hc (by decide)) (fun _=>?_);refine b9 func56 2 [0,1,4,5,6,10,14,18,21,24,27,30] rfl ?_;refine aA rfl rfl (fun _=>?_) (fun hc=>absurd hc (by decide));refine eB func56 1 rfl ?_;refine xo rfl (ay (vs:=[_,_,_]) func53 rfl H.Mu rfl (af.cD (qw 13 0 1))) ?_;rintro v1 h1 ⟨k1,e1⟩;refine cV 1 [0,1,4,5,6,10,14,18,21,24,27,30] rfl ?_;refine bM func56 rfl rfl ?_;exact⟨_,rfl,k1,e1⟩
theorem DU (r:Int) (hr0:0<=r) (hr1:r<128) (c:Cm) (hc:c.kind=2/\c.way=0/\c.n=1/\c.incl=false/\Utf8.encode r=bs c.text):af Tryz.prog 54 #[I5 1 r,.int .i64 1] h (aX fun v h'=>(∃w,v= .tuple #[w,.bool true]/\EZ h' w c)/\ak h h'):=by
 obtain⟨q1,q2,q3,q4,q5⟩:=hc;refine af.of func54 rfl rfl ?_;refine xr func54 rfl ?_;refine xo rfl (az.iQ rfl) ?_;rintro _ h1 ⟨rfl,k1,e1,z1⟩;have k1:aE h1 h.size 35 (AV 1 r):=k1;refine cV 2 [0,1,2,4,5] rfl ?_;refine aC rfl ?_;refine xr func54 rfl ?_;refine xp rfl (aa (off:=0) underlying35 rfl rfl H.ck rfl) ?_;refine xp rfl (au H.gS rfl (k1.cell (i:=0) rfl)) ?_;refine xd [0,1,2,4,5,7] rfl ?_;refine G.block rfl rfl ?_;refine b9 func54 2 [0,1,2,4,5,7,8] rfl ?_;refine aA rfl rfl (fun _=>?_) (fun hc=>absurd hc (by decide));refine eB func54 1 rfl ?_;refine xp rfl (aa (off:=1) underlying35 rfl rfl H.H7 rfl) ?_;refine xp rfl (au H.JQ rfl (k1.cell (i:=1) rfl)) ?_;refine xo rfl (ay (vs:=[_]) func52 rfl H.Pz rfl (af.cD (Ex r hr0 hr1))) ?_;rintro _ h2 ⟨rfl,hh2⟩;subst hh2;refine xp rfl (aB (H.EG _ _ _) rfl) ?_;refine xo rfl (az.cy (cs:=[_,_,_,_,_]) underlying72 H.Om rfl rfl (by decide)) ?_;rintro _ h3 ⟨rfl,hh3⟩;have e3:ak h2 h3:=by rw[hh3];exact Ext.push _ _ _
 refine cV 2 [0,1,2,4,5,7,8] rfl ?_;refine bM func54 rfl rfl ?_;exact⟨_,rfl,⟨_,rfl,by rw[hh3];exact Jx c (by unfold Ey;rw[q1,q2,q3,q4,<-q5])⟩,e1.trans e3⟩
theorem B3 (r:Int):af Tryz.prog 54 #[I5 2 r,.int .i64 1] h (aX fun v h'=>(∃w,v= .tuple #[w,.bool true]/\EZ h' w ⟨14,0,1,[],false⟩)/\ak h h'):=by
 refine af.of func54 rfl rfl ?_;refine xr func54 rfl ?_;refine xo rfl (az.iQ rfl) ?_;rintro _ h1 ⟨rfl,k1,e1,z1⟩;have k1:aE h1 h.size 35 (AV 2 r):=k1;refine cV 2 [0,1,2,4,5] rfl ?_;refine aC rfl ?_;refine xr func54 rfl ?_;refine xp rfl (aa (off:=0) underlying35 rfl rfl H.ck rfl) ?_;refine xp rfl (au H.gS rfl (k1.cell (i:=0) rfl)) ?_;refine xd [0,1,2,4,5,7] rfl ?_;refine G.block rfl rfl ?_;refine b9 func54 2 [0,1,2,4,5,7,8] rfl ?_;refine aA rfl rfl (fun hc=>absurd hc (by decide)) (fun _=>?_);refine b9 func54 2 [0,1,2,4,5,7,8,16] rfl ?_;refine aA rfl rfl (fun hc=>absurd hc (by decide)) (fun _=>?_);refine b9 func54 2 [0,1,2,4,5,7,8,16,22] rfl ?_;refine aA rfl rfl (fun hc=>absurd hc (by decide)) (fun _=>?_);refine b9 func54 2 [0,1,2,4,5,7,8,16,22,27] rfl ?_;refine aA rfl rfl (fun _=>?_) (fun hc=>absurd hc (by decide));refine xr func54 rfl ?_;refine xo rfl (ay (vs:=[_,_,_]) func53 rfl H.Mu rfl (af.cD (qw 14 0 1))) ?_;rintro v2 h2 ⟨k2,e2⟩;refine cV 2 [0,1,2,4,5,7,8,16,22,27] rfl ?_;refine bM func54 rfl rfl ?_;exact⟨_,rfl,⟨_,rfl,k2⟩,e1.trans e2⟩
theorem Iz (k r:Int) (hk:k=6\/k=7):af Tryz.prog 54 #[I5 k r,.int .i64 1] h (aX fun v h'=>v= .tuple #[.slice none 0 0,.bool false]/\ak h h'):=by
 refine af.of func54 rfl rfl ?_;refine xr func54 rfl ?_;refine xo rfl (az.iQ rfl) ?_;rintro _ h1 ⟨rfl,k1,e1,z1⟩;have k1:aE h1 h.size 35 (AV k r):=k1;refine cV 2 [0,1,2,4,5] rfl ?_;refine aC rfl ?_;refine xr func54 rfl ?_;refine xp rfl (aa (off:=0) underlying35 rfl rfl H.ck rfl) ?_;refine xp rfl (au H.gS rfl (k1.cell (i:=0) rfl)) ?_;refine xd [0,1,2,4,5,7] rfl ?_;refine G.block rfl rfl ?_;refine b9 func54 2 [0,1,2,4,5,7,8] rfl ?_;refine aA rfl rfl (fun hc=>absurd hc (by simp;omega)) (fun _=>?_);refine b9 func54 2 [0,1,2,4,5,7,8,16] rfl ?_;refine aA rfl rfl (fun hc=>absurd hc (by simp;omega)) (fun _=>?_);refine b9 func54 2 [0,1,2,4,5,7,8,16,22] rfl ?_;refine aA rfl rfl (fun hc=>absurd hc (by simp;omega)) (fun _=>?_);refine b9 func54 2 [0,1,2,4,5,7,8,16,22,27] rfl ?_;refine aA rfl rfl (fun hc=>absurd hc (by simp;omega)) (fun _=>?_);refine b9 func54 2 [0,1,2,4,5,7,8,16,22,27,30] rfl ?_;refine aA rfl rfl (fun hc=>absurd hc (by simp;omega)) (fun _=>?_);refine b9 func54 2 [0,1,2,4,5,7,8,16,22,27,30,34] rfl ?_;refine aA rfl rfl (fun hc=>absurd hc (by simp;omega)) (fun _=>?_);refine b9 func54 2 [0,1,2,4,5,7,8,16,22,27,30,34,38] rfl ?_;refine aA rfl rfl (fun hc=>absurd hc (by simp;omega)) (fun _=>?_);refine b9 func54 2 [0,1,2,4,5,7,8,16,22,27,30,34,38,42] rfl ?_;refine aA rfl rfl (fun hc=>absurd hc (by simp;omega)) (fun _=>?_);refine b9 func54 2 [0,1,2,4,5,7,8,16,22,27,30,34,38,42,46] rfl ?_;refine aA rfl rfl (fun hc=>absurd hc (by simp;omega)) (fun _=>?_);refine b9 func54 2 [0,1,2,4,5,7,8,16,22,27,30,34,38,42,46,49] rfl ?_;refine aA rfl rfl (fun hc=>absurd hc (by simp;omega)) (fun _=>?_);refine b9 func54 2 [0,1,2,4,5,7,8,16,22,27,30,34,38,42,46,49,52] rfl ?_;refine aA rfl rfl (fun hc=>absurd hc (by simp;omega)) (fun _=>?_);refine b9 func54 2 [0,1,2,4,5,7,8,16,22,27,30,34,38,42,46,49,52,55] rfl ?_;refine aA rfl rfl (fun hc=>absurd hc (by simp;omega)) (fun _=>?_);refine aC rfl ?_;refine b9 func54 2 [0,1,2,4,5,7,8,16,22,27,30,34,38,42,46,49,52,55,58] rfl ?_;refine aA rfl rfl (fun hc=>absurd hc (by simp;omega)) (fun _=>?_);refine G.eM func54 rfl ?_;refine cV 2 [0,1,2,4,5,7,8,16,22,27,30,34,38,42,46,49,52,55,58] rfl ?_;refine aA rfl rfl (fun hc=>absurd hc (by simp;omega)) (fun _=>?_);refine aR rfl ?_;refine G.cz ?_;refine b9 func54 2 [0,1,2,4,5,7,8,16,22,27,30,34,38,42,46,49,52,55,58] rfl ?_;refine bM func54 rfl rfl ?_;exact⟨_,rfl,rfl,e1⟩
def Oj:Value:=.agg #[.int .i64 0,.bool false]
theorem Er (k r:Int) (c:Cm) (hk:uQ k r c):af Tryz.prog 27 #[Oj,I5 k r] h (aX fun v h'=>(∃w,v= .tuple #[Oj,w]/\EZ h' w c)/\ak h h'):=by
 have hkk:k=1\/k=2\/k=6\/k=7:=by rcases hk with ⟨q,_⟩|⟨q,_⟩|⟨q,_⟩|⟨q,_⟩<;>omega
 have hkr:k=7->r=122:=by rcases hk with ⟨q,_⟩|⟨q,_⟩|⟨q,_⟩|⟨q,q2,_⟩<;>omega
 refine af.of func27 rfl rfl ?_;refine xr func27 rfl ?_;refine xo rfl (az.iQ rfl) ?_;rintro _ h1 ⟨rfl,k1,e1,z1⟩;refine xo rfl (az.iQ rfl) ?_;rintro _ h2 ⟨rfl,k2,e2,z2⟩;refine xo rfl (az.cC H.O4) ?_;rintro _ h3 ⟨rfl,k3,e3,z3⟩;have k1:aE h3 h.size 53 [.int .i64 0,.bool false]:=(k1.aj e2).aj e3;have k2:aE h3 h1.size 35 (AV k r):=k2.aj e3;have e03:=(e1.trans e2).trans e3;have e12:h.size<=h2.size:=(e1.trans e2).size;refine cV 1 [0,1,2,3,4,5] rfl ?_;refine aC rfl ?_;refine aC rfl ?_;refine G.eF [(20,.bool false)] [(0,_),(1,_),(2,_),(3,_),(4,_),(5,_)] ⟨rfl,rfl,rfl,rfl,rfl,rfl,trivial⟩ func27 rfl ?_ ?_
 · refine xp rfl (aa (off:=0) underlying35 rfl rfl H.ck rfl) ?_;refine xp rfl (au H.gS rfl (k2.cell (i:=0) rfl)) ?_;refine dz 2 rfl ?_;refine RW.split (d:=11) rfl (fun g1=>?_) (fun g1=>?_)
   · refine xp rfl (aa (off:=1) underlying35 rfl rfl H.H7 rfl) ?_;refine xp rfl (au H.JQ rfl (k2.cell (i:=1) rfl)) ?_;refine dz 3 rfl ?_;refine RW.split (d:=16) rfl (fun g2=>?_) (fun g2=>?_)
     · refine xp rfl (aa (off:=1) underlying35 rfl rfl H.H7 rfl) ?_;refine xp rfl (au H.JQ rfl (k2.cell (i:=1) rfl)) ?_;refine dz 2 rfl ?_;refine RW.done rfl ?_;exact⟨rfl,aq rfl (by simp at g1 ⊢;omega),rfl,rfl,rfl,rfl,rfl,rfl,trivial⟩
     · refine dz 4 rfl ?_;refine RW.done rfl ?_;exact⟨rfl,aq rfl (rfl),rfl,rfl,rfl,rfl,rfl,rfl,trivial⟩
   · refine dz 9 rfl ?_;refine RW.done rfl ?_;exact⟨rfl,aq rfl (rfl),rfl,rfl,rfl,rfl,rfl,rfl,trivial⟩
 · refine aA rfl rfl (fun hc=>absurd hc (by decide)) (fun _=>?_);refine aR rfl ?_;refine aC rfl ?_;refine xr func27 rfl ?_;refine xp rfl (aa (off:=0) underlying35 rfl rfl H.ck rfl) ?_;refine xp rfl (au H.gS rfl (k2.cell (i:=0) rfl)) ?_;refine cV 1 [0,1,2,3,4,5,20,35] rfl ?_;refine aA rfl rfl (fun hc=>absurd hc (by simp;omega)) (fun _=>?_);refine aR rfl ?_;refine b9 func27 1 [0,1,2,3,4,5,6,20,35] rfl ?_;refine aC rfl ?_;refine xr func27 rfl ?_;refine xp rfl (aa (off:=1) underlying53 rfl rfl H.Ko rfl) ?_;refine xp rfl (au H.Qr rfl (k1.cell (i:=1) rfl)) ?_;refine xd [0,1,2,3,4,5,6,20,35,38] rfl ?_;refine aA rfl rfl (fun hc=>absurd hc (by decide)) (fun _=>?_)
   rcases hk with ⟨rfl,q1,q2,q3⟩|hk
   · refine aR rfl ?_;refine xr func27 rfl ?_;refine xp rfl (an.aG H.Bq H.rz rfl k2.row (by first|rfl|(simp;done)|(simp;omega))) ?_;refine dz 1 rfl ?_;refine xo rfl (ay (vs:=[_,_]) func54 rfl H.Mt rfl (af.cD (DU r q1 q2 c q3))) ?_;rintro _ h4 ⟨⟨w,rfl,kw⟩,e4⟩;obtain⟨bw,rfl,kb⟩:=kw;refine cV 5 [0,1,2,3,4,5,6,7,20,35,38] rfl ?_;refine aC rfl ?_;refine G.block rfl rfl ?_;refine b9 func27 2 [0,1,2,3,4,5,6,7,20,35,38,47] rfl ?_;refine aA rfl rfl (fun _=>?_) (fun hc=>absurd hc (by decide));refine aR rfl ?_;refine G.cz ?_;refine xr func27 rfl ?_;refine xp rfl (aB (H.FH ) rfl) ?_;refine dz 1 rfl ?_;refine RW.fS rfl rfl rfl (az.aH H.uH rfl rfl (k3.aj e4) (by first|rfl|(simp;done)|(simp;omega)) (by first|decide|exact of_decide_eq_true rfl|(simp;done)|(simp;omega)) (by first|decide|simp[Value.oneCell'])) ?_;rintro _ h5 ⟨rfl,k5,x5,z5⟩;refine cV 1 [0,1,2,3,4,5,6,7,20,35,38,47] rfl ?_;refine G.qu func27 rfl (.cons (cP.nM H.JN H.uH rfl (k5.row) (by first|rfl|(simp;done)|(simp;omega))) (.cons (cP.tmp rfl) (.nil))) ?_;exact⟨_,rfl,⟨_,rfl,bw,rfl,kb.ext x5 (fun q=>kb.ty.ne ((k3.aj e4).ty) (by decide) q)⟩,(ak.only (e03.trans e4) x5 e12)⟩
   · rcases hk with ⟨rfl,rfl⟩|hk
     · refine aR rfl ?_;refine xr func27 rfl ?_;refine xp rfl (an.aG H.Bq H.rz rfl k2.row (by first|rfl|(simp;done)|(simp;omega))) ?_;refine dz 1 rfl ?_;refine xo rfl (ay (vs:=[_,_]) func54 rfl H.Mt rfl (af.cD (B3 r))) ?_;rintro _ h4 ⟨⟨w,rfl,kw⟩,e4⟩;obtain⟨bw,rfl,kb⟩:=kw;refine cV 5 [0,1,2,3,4,5,6,7,20,35,38] rfl ?_;refine aC rfl ?_;refine G.block rfl rfl ?_;refine b9 func27 2 [0,1,2,3,4,5,6,7,20,35,38,47] rfl ?_;refine aA rfl rfl (fun _=>?_) (fun hc=>absurd hc (by decide));refine aR rfl ?_;refine G.cz ?_;refine xr func27 rfl ?_;refine xp rfl (aB (H.FH ) rfl) ?_;refine dz 1 rfl ?_;refine RW.fS rfl rfl rfl (az.aH H.uH rfl rfl (k3.aj e4) (by first|rfl|(simp;done)|(simp;omega)) (by first|decide|exact of_decide_eq_true rfl|(simp;done)|(simp;omega)) (by first|decide|simp[Value.oneCell'])) ?_;rintro _ h5 ⟨rfl,k5,x5,z5⟩;refine cV 1 [0,1,2,3,4,5,6,7,20,35,38,47] rfl ?_;refine G.qu func27 rfl (.cons (cP.nM H.JN H.uH rfl (k5.row) (by first|rfl|(simp;done)|(simp;omega))) (.cons (cP.tmp rfl) (.nil))) ?_;exact⟨_,rfl,⟨_,rfl,bw,rfl,kb.ext x5 (fun q=>kb.ty.ne ((k3.aj e4).ty) (by decide) q)⟩,(ak.only (e03.trans e4) x5 e12)⟩
     · refine aR rfl ?_;refine xr func27 rfl ?_;refine xp rfl (an.aG H.Bq H.rz rfl k2.row (by first|rfl|(simp;done)|(simp;omega))) ?_;refine dz 1 rfl ?_;refine xo rfl (ay (vs:=[_,_]) func54 rfl H.Mt rfl (af.cD (Iz k r (by rcases hk with q|q<;>omega)))) ?_;rintro _ h4 ⟨rfl,e4⟩;refine cV 5 [0,1,2,3,4,5,6,7,20,35,38] rfl ?_;refine aC rfl ?_;refine G.block rfl rfl ?_;refine b9 func27 2 [0,1,2,3,4,5,6,7,20,35,38,47] rfl ?_;refine aA rfl rfl (fun hc=>absurd hc (by decide)) (fun _=>?_);have k24:=k2.aj e4;refine xr func27 rfl ?_;refine xp rfl (aa (off:=0) underlying35 rfl rfl H.ck rfl) ?_;refine xp rfl (au H.gS rfl (k24.cell (i:=0) rfl)) ?_;refine cV 2 [0,1,2,3,4,5,6,7,20,35,38,47,49] rfl ?_
       rcases hk with ⟨rfl,rfl,rfl⟩|⟨rfl,rfl,rfl⟩
       · refine aA rfl rfl (fun _=>?_) (fun hc=>absurd hc (by decide));refine G.eM func27 rfl ?_;refine xp rfl (aa (off:=1) underlying35 rfl rfl H.H7 rfl) ?_;refine xp rfl (au H.JQ rfl (k24.cell (i:=1) rfl)) ?_;refine dz 1 rfl ?_;refine xo rfl (ay (vs:=[_,_]) func55 rfl H.Py rfl (af.cD (Ew))) ?_;rintro w h6 ⟨kw,e6⟩;obtain⟨bw,rfl,kb⟩:=kw;refine cV 1 [0,1,2,3,4,5,6,7,20,35,38,47,49] rfl ?_;refine G.cz ?_;refine xr func27 rfl ?_;refine xp rfl (aB (H.FH ) rfl) ?_;refine dz 1 rfl ?_;refine RW.fS rfl rfl rfl (az.aH H.uH rfl rfl ((k3.aj e4).aj e6) (by first|rfl|(simp;done)|(simp;omega)) (by first|decide|exact of_decide_eq_true rfl|(simp;done)|(simp;omega)) (by first|decide|simp[Value.oneCell'])) ?_;rintro _ h5 ⟨rfl,k5,x5,z5⟩;refine cV 1 [0,1,2,3,4,5,6,7,20,35,38,47,49] rfl ?_;refine G.qu func27 rfl (.cons (cP.nM H.JN H.uH rfl (k5.row) (by first|rfl|(simp;done)|(simp;omega))) (.cons (cP.tmp rfl) (.nil))) ?_;exact⟨_,rfl,⟨_,rfl,bw,rfl,kb.ext x5 (fun q=>kb.ty.ne (((k3.aj e4).aj e6).ty) (by decide) q)⟩,(ak.only ((e03.trans e4).trans e6) x5 e12)⟩
       · refine aA rfl rfl (fun hc=>absurd hc (by decide)) (fun _=>?_);refine xr func27 rfl ?_;refine xp rfl (aa (off:=0) underlying35 rfl rfl H.ck rfl) ?_;refine xp rfl (au H.gS rfl (k24.cell (i:=0) rfl)) ?_;refine cV 2 [0,1,2,3,4,5,6,7,20,35,38,47,49,57] rfl ?_;refine aA rfl rfl (fun _=>?_) (fun hc=>absurd hc (by decide));refine G.eM func27 rfl ?_;refine xp rfl (aa (off:=1) underlying35 rfl rfl H.H7 rfl) ?_;refine xp rfl (au H.JQ rfl (k24.cell (i:=1) rfl)) ?_;refine dz 1 rfl ?_;refine xo rfl (ay (vs:=[_,_]) func56 rfl H.Px rfl (af.cD (Ht))) ?_;rintro w h6 ⟨kw,e6⟩;obtain⟨bw,rfl,kb⟩:=kw;refine cV 1 [0,1,2,3,4,5,6,7,20,35,38,47,49,57] rfl ?_;refine G.cz ?_;refine xr func27 rfl ?_;refine xp rfl (aB (H.FH ) rfl) ?_;refine dz 1 rfl ?_;refine RW.fS rfl rfl rfl (az.aH H.uH rfl rfl ((k3.aj e4).aj e6) (by first|rfl|(simp;done)|(simp;omega)) (by first|decide|exact of_decide_eq_true rfl|(simp;done)|(simp;omega)) (by first|decide|simp[Value.oneCell'])) ?_;rintro _ h5 ⟨rfl,k5,x5,z5⟩;refine cV 1 [0,1,2,3,4,5,6,7,20,35,38,47,49,57] rfl ?_;refine G.qu func27 rfl (.cons (cP.nM H.JN H.uH rfl (k5.row) (by first|rfl|(simp;done)|(simp;omega))) (.cons (cP.tmp rfl) (.nil))) ?_;exact⟨_,rfl,⟨_,rfl,bw,rfl,kb.ext x5 (fun q=>kb.ty.ne (((k3.aj e4).aj e6).ty) (by decide) q)⟩,(ak.only ((e03.trans e4).trans e6) x5 e12)⟩
theorem gf.self {O:Nat->Prop}{b:Nat}{s:By}{n:Int}(k:gf O h b s n):gf (fun y=>y=b\/O y) h b s n:=by
 obtain⟨h0,lb,tv,sv,pv,kG,kL,k3,hb0,kd,ht,hs,hp⟩:=k;have m:Mv (fun x=>x=b\/O x) (fun x=>x=b\/(x=b\/O x)) h h:=Mv.cL (Ext.refl (fun _=>False) h) fun y _ hn=>⟨fun q=>q,fun q=>q.elim (fun q=>hn (.inl q)) hn⟩
 exact⟨h0,lb,tv,sv,pv,kG,kL.mv m,k3,⟨hb0.1,fun y q=>q.elim (fun q=>q▸hb0.1) (hb0.2 y)⟩,kd,ht.mv m,hs.mv m,hp.mv m⟩
theorem Ep (hg:kF h):af Tryz.prog 6 #[] h (aX fun r h'=>(∃eb:Nat,r= .pointer (some ⟨eb,0,none⟩)/\fZ Dj h.size h' eb mV)/\ak h h'):=by
 refine af.of func6 rfl rfl ?_;refine b9 func6 1 [0] rfl ?_;refine xr func6 rfl ?_;refine xo rfl (ay (vs:=[_]) func16 rfl H.PO rfl (af.cD (DT (Z:=Dj) (fun _ q=>q.elim)))) ?_;rintro _ h1 ⟨⟨tv,rfl,kt⟩,e1⟩;obtain⟨bt,vt,lt,rfl,_⟩:=id kt;obtain⟨⟨lim,hl,hs⟩,hten,hru,_,_⟩:=(hg.aj e1)
 refine cV 5 [0,1] rfl ?_;refine xr func6 rfl ?_;refine xp rfl (aB (H.MY _) rfl) ?_;refine dz 2 rfl ?_;refine xo rfl (ay (vs:=[_,_]) func17 rfl H.PN rfl (af.cD (Du kt 0))) ?_;rintro _ h2 ⟨⟨ub,rfl,hub,ku⟩,e2⟩;obtain⟨⟨lim,hl,hs⟩,hten,hru,_,_⟩:=((hg.aj e1).aj e2)
 refine xo rfl (ay (vs:=[]) func19 rfl H.PL rfl (af.cD (vZ hs hl hten hru))) ?_;rintro lp h3 ⟨kL,e3⟩;have z1:=e1.size;have z2:=e2.size;have z3:=e3.size;have e03:=(e1.trans e2).trans e3;have hnew:=Bb (h00:=h) (h:=h3) (Z:=fun y=>h.size<=y/\y<h2.size) hg e03 (fun y q=>⟨q.1,by omega⟩) (kL.mv (Mv.cL (Ext.refl (fun _=>False) h3) fun y _ q=>⟨fun q=>q,fun q2=>q q2.2⟩)) [] (by decide);obtain⟨lb,vm,rfl,_⟩:=id kL;refine xo rfl (ay (vs:=[_,_]) func18 rfl H.PM rfl (af.cD (hnew))) ?_;rintro _ h4 ⟨⟨db,rfl,hdb,kd⟩,e4⟩;refine xp rfl (aB (H.Bn _ _ _ _ _ _ _ _ _ _ _ _ _ _ _ _ _ _ _ _ _ _) rfl) ?_;refine xo rfl (az.iQ rfl) ?_;rintro _ h5 ⟨rfl,k5,e5,z5⟩;refine cV 1 [0,1] rfl ?_;refine bM func6 rfl rfl ?_;have kub:ub<h2.size:=by obtain⟨_,kk,_⟩:=ku.blk;exact kk.lt
 have z4:=e4.size;have kdl:db<h4.size:=by obtain⟨_,_,_,_,_,_,_,_,_,kk,_⟩:=id kd;exact kk.lt
 have k5:aE h5 h4.size 57 (KT mV.s (.slice none 0 0) (.slice none 0 0) (.slice none 0 0) (.slice none 0 0) (.pointer (some ⟨bt,0,none⟩)) ub db):=k5;refine⟨_,rfl,⟨h4.size,rfl,db,ub,.slice none 0 0,.slice none 0 0,_,_,_,_,_,0,k5,(((kt.mv (Mv.DV e2)).mv (Mv.DV e3)).mv (Mv.DV e4)).mv (Mv.DV e5),((ku.aj e3).aj e4).aj e5,kd.self.grow e5 (fun y q=>?_),⟨bC.nil _ _ _,bC.nil _ _ _,bC.nil _ _ _,bC.nil _ _ _⟩,fun y q=>?_,fun _ q=>q.elim⟩,(e03.trans e4).trans e5⟩
 · rcases q with q|q|(q|q|q)|q
   · exact .inr (by omega)
   · exact .inl (.inl q)
   · exact .inl (.inr ⟨by omega,by omega⟩)
   · cases q
   · cases q
   · exact q.elim
 · rcases q with q|q|(q|q|q)|q
   · omega
   · omega
   · omega
   · cases q
   · cases q
   · exact q.elim
theorem QY (c:Cm):∀v∈Ey c,v.oneCell'=true:=by
 intro v hv;simp only[Ey,List.mem_cons,List.not_mem_nil,or_false] at hv
 rcases hv with rfl|rfl|rfl|rfl|rfl<;>rfl
theorem mC {e':nr}(k:fZ Z base h eb e) (hm:e.s.mode=0){kk r:Int}(hk:uQ kk r c) (hdo:∀g,fZ Z base g eb e->af Tryz.prog 7 #[.pointer (some ⟨eb,0,none⟩),HE c] g (aX fun _ h'=>fZ Z base h' eb e'/\Ext (pg base g) g h')) :
 af Tryz.prog 10 #[.pointer (some ⟨eb,0,none⟩),I5 kk r] h (aX fun _ h'=>fZ Z base h' eb e'/\Ext (pg base h) h h'):=by
 obtain⟨db,ub,wv,gv,tv,rv,hv,lv,fv,m,K⟩:=k;refine af.of func10 rfl rfl ?_;refine xr func10 rfl ?_;refine xo rfl (az.iQ rfl) ?_;rintro _ h1 ⟨rfl,k1,e1,z1⟩;refine xd [0,1,3] rfl ?_;refine aC rfl ?_;refine eB func10 1 rfl ?_;refine xo rfl (ay (vs:=[_]) func20 rfl H.uL rfl (af.cD (ow (K.aj e1).blk))) ?_;rintro _ h2 ⟨rfl,hh2⟩;refine xd [0,1,3,8] rfl ?_;subst hh2;refine aA rfl rfl (fun hc=>absurd hc (by decide)) (fun _=>?_);have K2:=K.aj e1;have kb2:=K2.blk;have k1:aE h2 h.size 35 (AV kk r):=k1;have hel:=K.blk.lt;refine aR rfl ?_;refine b9 func10 1 [0,1,3,4,8] rfl ?_;refine aC rfl ?_;refine eB func10 2 rfl ?_;refine xp rfl (aa (off:=0) underlying57 rfl rfl H.cn rfl) ?_;refine xp rfl (aa (off:=2) underlying31 rfl rfl H.ck rfl) ?_;refine xp rfl (au H.gS rfl (kb2.cell (i:=2) rfl)) ?_;refine xd [0,1,3,4,8,13] rfl ?_;refine G.block rfl rfl ?_;refine b9 func10 2 [0,1,3,4,8,13,31] rfl ?_;refine aA rfl rfl (fun hc=>absurd hc (by simp;omega)) (fun _=>?_);refine b9 func10 2 [0,1,3,4,8,13,31,35] rfl ?_;refine aA rfl rfl (fun _=>?_) (fun hc=>absurd hc (by simp;omega));have hmp:=Er (h:=h2) kk r c hk;have hMe:¬Array.size h2<=eb:=by omega
 have hM1:¬Array.size h2<=h.size:=by omega
 have krow:Lw.rowAt h2 eb (0+22) [.int .i64 0,.bool false]:=fun j v hv=>by
  match j,hv with
  | 0,hv=>cases hv;exact kb2.cell (i:=22) rfl
  | 1,hv=>cases hv;exact kb2.cell (i:=23) rfl
 refine cU (fun b=>Array.size h2<=b) (fun i=>Nat.blt i 12) (sz:=14) (listed:= #[false,false,false,false,false,false,false,false,false,false,false,false,false,false]) func10 H.mixed rfl rfl rfl ?_;refine aP 0 1 (by kernel_rfl) rfl ?_;refine aP 1 3 (by kernel_rfl) rfl ?_;refine aP 2 7 (by kernel_rfl) rfl ?_;refine cj 3 15 (by kernel_rfl) rfl (fun h' e=>aa (off:=22) underlying57 rfl rfl H.uH rfl) ?_;refine cj 4 31 (by kernel_rfl) rfl (fun h' e=>an.aG H.JN H.uH rfl (e.rowAt hMe krow) (by first|rfl|(simp;done)|(simp;omega))) ?_;refine cj 5 63 (by kernel_rfl) rfl (fun h' e=>an.aG H.Bq H.rz rfl (e.rowAt hM1 k1.row) (by first|rfl|(simp;done)|(simp;omega))) ?_;refine jU 6 127 (by kernel_rfl) rfl (ay (vs:=[_,_]) func27 rfl H.PG rfl (af.cD (hmp))) ?_;rintro _ h4 ⟨⟨_,rfl,bw,rfl,kw⟩,e4⟩;refine⟨fun _=>e4.of,?_⟩;refine aP 7 255 (by kernel_rfl) rfl ?_;refine aP 8 511 (by kernel_rfl) rfl ?_;refine aP 10 1535 (by kernel_rfl) rfl ?_;refine cj 11 3583 (by kernel_rfl) rfl (fun h' e=>aa (off:=22) underlying57 rfl rfl H.uH rfl) ?_;refine RD.nC 9 (listed':= #[true,true,true,true,true,true,true,true,true,true,true,true,false,false]) rfl (by kernel_rfl) (by kernel_rfl) (by kernel_rfl) rfl rfl rfl (fun _=>an.extract rfl rfl) rfl ?_;refine rf 12 8191 (by kernel_rfl) rfl (az.aH H.uH rfl rfl (kb2.aj e4) (by first|rfl|(simp;done)|(simp;omega)) (by first|decide|exact of_decide_eq_true rfl|(simp;done)|(simp;omega)) (by first|decide|simp[Value.oneCell'])) ?_;rintro _ h5 ⟨rfl,k5,x5,z5⟩;refine⟨fun hk=>(nomatch hk),?_⟩;have k5:aE h5 eb 57 (KT e.s rv hv lv fv tv ub db):=k5;have K5:fZ Z base h5 eb e:=⟨db,ub,wv,gv,tv,rv,hv,lv,fv,m,(K2.aj e4).cells k5 x5 rfl rfl rfl rfl rfl⟩
 have kw5:aE h5 bw 28 (Ey c):=kw.ext x5 (fun q=>kw.ty.ne (kb2.aj e4).ty (by decide) q);have x05:Ext (pg base h) h h5:=(ak.of (e1.trans e4)).trans (x5.mono fun y _ q=>K.ty y (.inl q));refine aP 13 16383 (by kernel_rfl) rfl ?_;refine RD.done (by kernel_rfl) ?_;refine xu [0,1,3,4,8,13,31,35] rfl ?_;refine G.cz ?_;refine eB func10 1 rfl ?_;refine xp rfl (an.cM underlying72 rfl) ?_;refine cV 1 [0,1,3,4,8,13,31,35,49,50,51] rfl ?_;refine G.block rfl rfl ?_;refine hU (σ:=Nat) (fun i=>[(0,.pointer (some ⟨eb,0,none⟩)),(49,.slice (some ⟨bw,0,none⟩) 1 1),(50,.int .i64 1),(51,.int .i64 (i:Nat))]) (fun i h'=>Ext (pg base h) h h'/\((i=0/\fZ Z base h' eb e/\aE h' bw 28 (Ey c))\/(i=1/\fZ Z base h' eb e'))) (fun i=>1-i) (0) rfl ⟨rfl,rfl,rfl,rfl,trivial⟩ ⟨x05,.inl ⟨rfl,K5,kw5⟩⟩ ?_;rintro i h6 ⟨x6,hd⟩ ih;refine b9 func10 1 [0,49,50,51,52] rfl ?_;refine aC rfl ?_;refine dQ rfl rfl (fun hlt=>?_) (fun hlt=>?_)
 · have hi0:i=0:=by omega
   subst hi0
   obtain⟨K6,kw6⟩:fZ Z base h6 eb e/\aE h6 bw 28 (Ey c):=by
    rcases hd with ⟨_,q1,q2⟩|⟨q,_⟩
    · exact⟨q1,q2⟩
    · omega
   refine aR rfl ?_;refine aC rfl ?_;refine G.block rfl rfl ?_;refine xr func10 rfl ?_;refine xp rfl (an.cx underlying72 H.sS rfl rfl 0 rfl rfl (by omega)) ?_;refine xp rfl (an.aG H.Br H.sS rfl kw6.row (by first|rfl|(simp;done)|(simp;omega))) ?_;refine xo rfl (az.cC H.O6) ?_;rintro _ h7 ⟨rfl,k7,e7,z7⟩;refine RW.fS rfl rfl rfl (az.aH H.sS rfl rfl k7 (by first|rfl|(simp;done)|(simp;omega)) (by first|decide|exact of_decide_eq_true rfl|(simp;done)|(simp;omega)) ((QY c))) ?_;rintro _ h8 ⟨rfl,k8,x8,z8⟩;have e68:ak h6 h8:=ak.only e7 x8 (Nat.le_refl _);have k8:aE h8 h6.size 28 (Ey c):=k8;refine xd [0,6,49,50,51,52] rfl ?_;refine G.eM func10 rfl ?_;refine eU 1 rfl rfl (an.aG H.Br H.sS rfl k8.row (by first|rfl|(simp;done)|(simp;omega))) ?_;refine xo rfl (ay (vs:=[_,_]) func7 rfl H.Qm rfl (af.cD (hdo h8 (K6.aj e68)))) ?_;rintro _ h9 ⟨K9,x9⟩;refine xd [0,6,49,50,51,52] rfl ?_;refine G.cz ?_;refine G.eM func10 rfl ?_;refine xp rfl (an.dm rfl rfl ⟨by omega,by omega⟩) ?_;refine cV 1 [0,6,49,50,51,52] rfl ?_;exact ih (0+1) _ _ ⟨rfl,rfl,rfl,rfl,trivial⟩ ⟨pg.trans (x6.trans (ak.of e68)) x9,.inr ⟨rfl,K9⟩⟩ (by omega)
 · refine jb rfl rfl ?_;refine G.G2 func10 rfl ?_
   rcases hd with ⟨q,_⟩|⟨_,q⟩
   · omega
   · exact⟨_,rfl,q,x6⟩
theorem yD (k:fZ Z base h eb e) (hs:e.s.text.length<=1000000) :
 af Tryz.prog 11 #[.pointer (some ⟨eb,0,none⟩)] h (aX fun r h'=>(∃a c,r= .slice a (aQ e.s.text).1.length c)/\ak h h'):=by
 obtain⟨db,ub,wv,gv,tv,rv,hv,lv,fv,m,K⟩:=k;refine af.of func11 rfl rfl ?_;refine b9 func11 1 [0,2] rfl ?_;refine aC rfl ?_;refine eB func11 1 rfl ?_;refine xo rfl (ay (vs:=[_]) func20 rfl H.uL rfl (af.cD (ow K.blk))) ?_;rintro _ h1 ⟨rfl,hh1⟩;refine xd [0,2,4] rfl ?_;subst hh1;refine aA rfl rfl (fun hc=>absurd hc (by decide)) (fun _=>?_);refine aR rfl ?_;refine eB func11 2 rfl ?_;refine xp rfl (aa (off:=21) underlying57 rfl rfl H.Kn rfl) ?_;refine xp rfl (au H.JO rfl (K.blk.cell (i:=21) rfl)) ?_;refine xo rfl (ay (vs:=[_]) func29 rfl H.PF rfl (af.cD (Ae K.doc hs))) ?_;rintro r2 h2 ⟨k2,e2⟩;refine cV 1 [0,2,4] rfl ?_;refine bM func11 rfl rfl ?_;obtain⟨a,c,rfl,_⟩:=ax.open k2;exact⟨_,rfl,⟨a,c,rfl⟩,e2⟩
def yo (e:nr) (c:Cm) (e':nr):Prop:=∀{base:Nat}{g:ai}{eb:Nat},fZ Dj base g eb e->af Tryz.prog 7 #[.pointer (some ⟨eb,0,none⟩),HE c] g (aX fun _ h'=>fZ Dj base h' eb e'/\Ext (pg base g) g h')
def Nl (s:By) (i:Nat):Prop:=((s.getD i 0).toNat=94\/(s.getD i 0).toNat=33)/\i+1<s.length
instance (s:By) (i:Nat):Decidable (Nl s i):=inferInstanceAs (Decidable (_/\_))
def DX (s:By) (i:Nat):Nat:=if Nl s i then i+2 else i+1
def tq (s:By) (i:Nat):Int×Int:=if Nl s i then (if (s.getD i 0).toNat=33 then (7,((s.getD (i+1) 0).toNat:Int)) else (6,((s.getD (i+1) 0).toNat:Int))) else if (s.getD i 0).toNat=10 then (2,0) else (1,((s.getD i 0).toNat:Int))
theorem wrap32 (x:UInt8):IntKind.i32.wrap ((x.toNat:Nat):Int)=(x.toNat:Nat):=by
 have:=x.toNat_lt;have h1:(2:Int) ^ 32=4294967296:=by decide
 have h2:(2:Int) ^ 31=2147483648:=by decide
 simp only[IntKind.wrap,IntKind.bits,IntKind.signed,Bool.true_and,decide_eq_true_eq,Nat.reduceSub,h1,h2];split<;>omega
theorem j7 (hg:kF h) (s:By) (hs:s.length<=10) (R:Nat->Prop) (st:Nat->nr) (h0:st 0=mV) (hR0:R 0) (hRl:∀i,R i->i<=s.length) (hst:∀i,R i->i<s.length->R (DX s i)/\(st i).s.mode=0/\∃c,uQ (tq s i).1 (tq s i).2 c/\yo (st i) c (st (DX s i))) :
 af Tryz.prog 15 #[.string (bs s)] h (aX fun r h'=>(∃eb:Nat,r= .pointer (some ⟨eb,0,none⟩)/\fZ Dj h.size h' eb (st s.length))/\ak h h'):=by
 have hbs:=aF s;refine af.of func15 rfl rfl ?_;refine b9 func15 1 [0,2] rfl ?_;refine xr func15 rfl ?_;refine xo rfl (ay (vs:=[]) func6 rfl H.QN rfl (af.cD (Ep hg))) ?_;rintro _ h1 ⟨⟨eb,rfl,K1⟩,e1⟩;refine cV 1 [0,2,3] rfl ?_;refine aC rfl ?_;refine b9 func15 1 [0,2,3,4] rfl ?_;refine G.block rfl rfl ?_;refine hU (σ:=Nat) (fun i=>[(0,.string (bs s)),(3,.pointer (some ⟨eb,0,none⟩)),(4,.int .i64 (i:Nat))]) (fun i h'=>R i/\fZ Dj h.size h' eb (st i)/\ak h h') (fun i=>s.length-i) (0) rfl ⟨rfl,rfl,rfl,trivial⟩ ⟨hR0,h0▸K1,e1⟩ ?_;rintro i h2 ⟨hRi,K2,e2⟩ ih;have hle:=hRl i hRi;refine aC rfl ?_;refine eB func15 2 rfl ?_;refine xp rfl (an.bH underlying9 rfl) ?_;refine cV 1 [0,3,4,10] rfl ?_;refine dQ rfl rfl (fun hlt=>?_) (fun hlt=>?_)
 · have hil:i<s.length:=by omega
   obtain⟨x,hx⟩:∃x,s[i]? =some x:=⟨_,List.getElem?_eq_getElem hil⟩
   obtain⟨hR',hm,c,hkc,hdo⟩:=hst i hRi hil;have hgx:s.getD i 0=x:=by rw[List.getD_eq_getElem?_getD,hx];rfl
   have hisK:Nl s i↔(x.toNat=94\/x.toNat=33)/\i+1<s.length:=by unfold Nl;rw[hgx]
   refine aR rfl ?_;refine aC rfl ?_;refine G.block rfl rfl ?_;refine eB func15 2 rfl ?_;refine xp rfl (an.fF underlying9 rfl rfl i rfl (iq hx)) ?_;refine xp rfl (an.u9 underlying5 underlying21 rfl) ?_;refine xp rfl (aB (H.C3 _ _) rfl) ?_;refine xo rfl (az.cC H.O5) ?_;rintro _ h3 ⟨rfl,k3,e3,z3⟩;refine RW.fS rfl rfl rfl (az.aH H.rz rfl rfl k3 (by first|rfl|(simp;done)|(simp;omega)) (by first|decide|exact of_decide_eq_true rfl|(simp;done)|(simp;omega)) (by first|decide|simp[Value.oneCell'])) ?_;rintro _ h4 ⟨rfl,k4,x4,z4⟩;have e4:ak h2 h4:=ak.only e3 x4 (Nat.le_refl _);have k4:aE h4 h2.size 35 (AV 1 (x.toNat:Nat)):=by rw[wrap32 x] at k4;exact k4
   refine xd [0,3,4,5,10] rfl ?_;refine aC rfl ?_;refine aC rfl ?_;refine G.eF [(34,.bool (decide (Nl s i)))] [(0,_),(3,_),(4,_),(5,_),(10,_)] ⟨rfl,rfl,rfl,rfl,rfl,trivial⟩ func15 rfl ?_ ?_
   · refine eU 2 rfl rfl (an.fF underlying9 rfl rfl i rfl (iq hx)) ?_;refine dz 2 rfl ?_;refine RW.split (d:=22) rfl (fun g1=>?_) (fun g1=>?_)
     · refine eU 7 rfl rfl (an.dm rfl rfl ⟨by omega,by omega⟩) ?_;refine eU 1 rfl rfl (an.bH underlying9 rfl) ?_;refine dz 2 rfl ?_;refine RW.done rfl ?_;exact⟨rfl,aq rfl (by have g1':=of_decide_eq_true g1;exact decide_eq_decide.2 (by rw[hisK];omega)),rfl,rfl,rfl,rfl,rfl,trivial⟩
     · refine eU 2 rfl rfl (an.fF underlying9 rfl rfl i rfl (iq hx)) ?_;refine dz 3 rfl ?_;refine RW.split (d:=28) rfl (fun g2=>?_) (fun g2=>?_)
       · refine eU 1 rfl rfl (an.dm rfl rfl ⟨by omega,by omega⟩) ?_;refine eU 1 rfl rfl (an.bH underlying9 rfl) ?_;refine dz 2 rfl ?_;refine RW.done rfl ?_;exact⟨rfl,aq rfl (by have g2':=of_decide_eq_true g2;exact decide_eq_decide.2 (by rw[hisK];omega)),rfl,rfl,rfl,rfl,rfl,trivial⟩
       · refine dz 6 rfl ?_;refine RW.done rfl ?_;exact⟨rfl,aq rfl (by simp at g1 g2;simp[hisK];omega),rfl,rfl,rfl,rfl,rfl,trivial⟩
   · refine dQ rfl rfl (fun hK=>?_) (fun hK=>?_)
     · obtain⟨y,hy⟩:∃y,s[i+1]? =some y:=⟨_,List.getElem?_eq_getElem (hisK.1 hK).2⟩
       have hgy:s.getD (i+1) 0=y:=by rw[List.getD_eq_getElem?_getD,hy];rfl
       have hlt2:=(hisK.1 hK).2;have hn:DX s i=i+1+1:=if_pos hK;refine eB func15 2 rfl ?_;refine xp rfl (an.dm rfl rfl ⟨by omega,by omega⟩) ?_;refine xp rfl (an.fF underlying9 rfl rfl (i+1) (by omega) (iq hy)) ?_;refine xp rfl (an.u9 underlying5 underlying21 rfl) ?_;refine xp rfl (aB (H.C3 _ _) rfl) ?_;refine RW.fS rfl rfl rfl (az.aH H.rz rfl rfl k4 (by first|rfl|(simp;done)|(simp;omega)) (by first|decide|exact of_decide_eq_true rfl|(simp;done)|(simp;omega)) (by first|decide|simp[Value.oneCell'])) ?_;rintro _ h5 ⟨rfl,k5,x5,z5⟩;have e5:ak h2 h5:=ak.only e4 x5 (Nat.le_refl _);have k5:aE h5 h2.size 35 (AV 6 (y.toNat:Nat)):=by rw[wrap32 y] at k5;exact k5
       refine xd [0,3,4,5,10,34] rfl ?_;refine aC rfl ?_;refine eB func15 2 rfl ?_;refine xp rfl (an.fF underlying9 rfl rfl i rfl (iq hx)) ?_;refine cV 1 [0,3,4,5,10,34,44] rfl ?_;refine dQ rfl rfl (fun h33=>?_) (fun h33=>?_)
       · have h33':x.toNat=33:=by omega
         have hkk:tq s i=(7,((y.toNat:Nat):Int)):=by unfold tq;rw[if_pos hK,hgx,if_pos h33',hgy]
         rw[hkk] at hkc;refine G.eM func15 rfl ?_;refine xp rfl (aa (off:=0) underlying35 rfl rfl H.ck rfl) ?_;refine RW.fS rfl rfl rfl (az.aO H.ck rfl rfl k5 (by first|decide|exact of_decide_eq_true rfl|(simp;done)|(simp;omega)) rfl) ?_;rintro _ h6 ⟨rfl,k6,x6,z6⟩;have e6:ak h2 h6:=ak.only e5 x6 (Nat.le_refl _);have k6:aE h6 h2.size 35 (AV 7 (y.toNat:Nat)):=k6;refine xd [0,3,4,5,10,34,44] rfl ?_;refine G.eM func15 rfl ?_;refine eU 1 rfl rfl (an.dm rfl rfl ⟨by omega,by omega⟩) ?_;refine cV 1 [0,3,4,5,10,34,44] rfl ?_;refine G.eM func15 rfl ?_;refine dz 1 rfl ?_;have K5:=K2.aj e6;refine xp rfl (an.aG H.Bq H.rz rfl k6.row (by first|rfl|(simp;done)|(simp;omega))) ?_;refine xo rfl (ay (vs:=[_,_]) func10 rfl H.IM rfl (af.cD (mC K5 hm hkc (fun g kg=>hdo kg)))) ?_;rintro _ h9 ⟨K9,x9⟩;refine xd [0,3,4,5,10,34,44] rfl ?_;refine G.cz ?_;refine G.eM func15 rfl ?_;refine eU 1 rfl rfl (an.dm rfl rfl ⟨by omega,by omega⟩) ?_;refine cV 1 [0,3,4,5,10,34,44] rfl ?_;exact ih (i+1+1) _ _ ⟨rfl,rfl,rfl,trivial⟩ ⟨hn▸hR',hn▸K9,lQ (e2.trans e6) (x9.mono fun _ _ q=>q.1)⟩ (by omega)
       · have h33':¬x.toNat=33:=by omega
         have hkk:tq s i=(6,((y.toNat:Nat):Int)):=by unfold tq;rw[if_pos hK,hgx,if_neg h33',hgy]
         rw[hkk] at hkc;refine aR rfl ?_;refine G.eM func15 rfl ?_;refine eU 1 rfl rfl (an.dm rfl rfl ⟨by omega,by omega⟩) ?_;refine cV 1 [0,3,4,5,10,34,44] rfl ?_;refine G.eM func15 rfl ?_;refine dz 1 rfl ?_;have K5:=K2.aj e5;refine xp rfl (an.aG H.Bq H.rz rfl k5.row (by first|rfl|(simp;done)|(simp;omega))) ?_;refine xo rfl (ay (vs:=[_,_]) func10 rfl H.IM rfl (af.cD (mC K5 hm hkc (fun g kg=>hdo kg)))) ?_;rintro _ h9 ⟨K9,x9⟩;refine xd [0,3,4,5,10,34,44] rfl ?_;refine G.cz ?_;refine G.eM func15 rfl ?_;refine eU 1 rfl rfl (an.dm rfl rfl ⟨by omega,by omega⟩) ?_;refine cV 1 [0,3,4,5,10,34,44] rfl ?_;exact ih (i+1+1) _ _ ⟨rfl,rfl,rfl,trivial⟩ ⟨hn▸hR',hn▸K9,lQ (e2.trans e5) (x9.mono fun _ _ q=>q.1)⟩ (by omega)
     · have hn:DX s i=i+1:=if_neg hK;refine eB func15 2 rfl ?_;refine xp rfl (an.fF underlying9 rfl rfl i rfl (iq hx)) ?_;refine cV 1 [0,3,4,5,10,34,51] rfl ?_;refine dQ rfl rfl (fun h10=>?_) (fun h10=>?_)
       · have h10':x.toNat=10:=by omega
         have hkk:tq s i=(2,0):=by unfold tq;rw[if_neg hK,hgx,if_pos h10']
         rw[hkk] at hkc;refine G.eM func15 rfl ?_;refine xp rfl (aB (H.MX _) rfl) ?_;refine RW.fS rfl rfl rfl (az.aH H.rz rfl rfl k4 (by first|rfl|(simp;done)|(simp;omega)) (by first|decide|exact of_decide_eq_true rfl|(simp;done)|(simp;omega)) (by first|decide|simp[Value.oneCell'])) ?_;rintro _ h5 ⟨rfl,k5,x5,z5⟩;have e5:ak h2 h5:=ak.only e4 x5 (Nat.le_refl _);have k5:aE h5 h2.size 35 (AV 2 0):=k5;have K5:=K2.aj e5;refine xd [0,3,4,5,10,34,51] rfl ?_;refine G.eM func15 rfl ?_;refine eU 1 rfl rfl (an.aG H.Bq H.rz rfl k5.row (by first|rfl|(simp;done)|(simp;omega))) ?_;refine xo rfl (ay (vs:=[_,_]) func10 rfl H.IM rfl (af.cD (mC K5 hm hkc (fun g kg=>hdo kg)))) ?_;rintro _ h9 ⟨K9,x9⟩;refine xd [0,3,4,5,10,34,51] rfl ?_;refine G.cz ?_;refine G.eM func15 rfl ?_;refine eU 1 rfl rfl (an.dm rfl rfl ⟨by omega,by omega⟩) ?_;refine cV 1 [0,3,4,5,10,34,51] rfl ?_;exact ih (i+1) _ _ ⟨rfl,rfl,rfl,trivial⟩ ⟨hn▸hR',hn▸K9,lQ (e2.trans e5) (x9.mono fun _ _ q=>q.1)⟩ (by omega)
       · have h10':¬x.toNat=10:=by omega
         have hkk:tq s i=(1,((x.toNat:Nat):Int)):=by unfold tq;rw[if_neg hK,hgx,if_neg h10']
         rw[hkk] at hkc;have K5:=K2.aj e4;refine aR rfl ?_;refine G.eM func15 rfl ?_;refine eU 1 rfl rfl (an.aG H.Bq H.rz rfl k4.row (by first|rfl|(simp;done)|(simp;omega))) ?_;refine xo rfl (ay (vs:=[_,_]) func10 rfl H.IM rfl (af.cD (mC K5 hm hkc (fun g kg=>hdo kg)))) ?_;rintro _ h9 ⟨K9,x9⟩;refine xd [0,3,4,5,10,34,51] rfl ?_;refine G.cz ?_;refine G.eM func15 rfl ?_;refine eU 1 rfl rfl (an.dm rfl rfl ⟨by omega,by omega⟩) ?_;refine cV 1 [0,3,4,5,10,34,51] rfl ?_;exact ih (i+1) _ _ ⟨rfl,rfl,rfl,trivial⟩ ⟨hn▸hR',hn▸K9,lQ (e2.trans e4) (x9.mono fun _ _ q=>q.1)⟩ (by omega)
 · refine jb rfl rfl ?_;refine b9 func15 2 [0,2,3,4,10] rfl ?_;refine bM func15 rfl rfl ?_;rw[show s.length=i by omega];exact⟨_,rfl,⟨eb,rfl,K2⟩,e2⟩
theorem pH.L1:∀(n:Nat){B:Nat}{e:nr}(_:pH B e) (r:Bool),pH (B+n) (gJ n e r)
 | 0,_,_,k,_=>k
 |n+1,B,e,k,r=>by
  have h1:=k.back r;rw[gJ];split
  · have:=pH.L1 n h1 r;exact this.up (by omega)
  · exact h1.up (by omega)
theorem pH.Nw (k:pH B e) (r:Bool) (n:Int):pH (B+100) (oy e r n):=by
 rw[xD];exact(pH.L1 _ k.set r).up (by omega)
theorem Kf.ok (f:Kf e c) (hI:pH B e) (hB:B<=4000000) (hk:jM c) (hct:c.text.length<=100000):yo e c (yF e c) :=
 fun {_ _ _} k=>G7 k hI.inv (by omega) c hct hk f.1 f.2.1 f.2.2.1 f.2.2.2.1 f.2.2.2.2
theorem E3 (hI:pH B e) (hB:B<=4000000) (c:Cm) (hk:c.kind=12\/c.kind=13):yo e c (oy e (decide (c.kind=13)) c.n) :=
 fun {_ _ _} k=>BB k c hk hI hB
theorem A8:pH 0 mV:=⟨⟨by decide,by decide,by decide,by decide,(fun _ h=>nomatch h),by decide,(fun _ h=>nomatch h),by decide,(fun _ h=>nomatch h),by decide,by decide,by decide,by decide,by decide,by decide,by decide,by decide⟩,rfl,by decide,(fun _ h=>nomatch h),(fun _ h=>nomatch h),by decide⟩
def cK (x:UInt8):Cm:=⟨2,0,1,[x],false⟩
def Ox:Cm:=⟨14,0,1,[],false⟩
def P1:Cm:=⟨12,0,1,[],false⟩
def P2:Cm:=⟨13,0,1,[],false⟩
def pA:nr:=yF mV (cK 97)
def LC:nr:=yF pA (cK 98)
def pU:nr:=oy LC false 1
def pR:nr:=oy pU true 1
def pP:nr:=yF mV (cK 40)
def pN:nr:=yF pP Ox
theorem f1:Kf mV (cK 97):=by unfold Kf;decide +kernel
theorem f2:Kf pA (cK 98):=by unfold Kf;decide +kernel
theorem f3:Kf mV (cK 40):=by unfold Kf;decide +kernel
theorem f4:Kf pP Ox:=by unfold Kf;decide +kernel
theorem Mp:LC.s.text=[97,98]/\pU.s.text=[]/\pR.s.text=[97,98]/\pN.s.text=[40,10,32,32]/\1<(aQ pN.s.text).1.length:=by decide +kernel
theorem kK (x:UInt8):jM (cK x):=.inl rfl
theorem i1:pH 20000 pA:=A8.do (kK _) f1.2.1
theorem i2:pH 40000 LC:=i1.do (kK _) f2.2.1
theorem i3:pH 40100 pU:=i2.Nw false 1
theorem i4:pH 40200 pR:=i3.Nw true 1
theorem i5:pH 20000 pP:=A8.do (kK _) f3.2.1
theorem i6:pH 40000 pN:=i5.do (c:=Ox) (.inr (.inr (.inr (.inl rfl)))) f4.2.1
theorem d1:yo mV (cK 97) pA:=f1.ok A8 (by decide) (kK _) (by decide)
theorem d2:yo pA (cK 98) LC:=f2.ok i1 (by decide) (kK _) (by decide)
theorem d3:yo LC P1 pU:=E3 i2 (by decide) P1 (.inl rfl)
theorem d4:yo pU P2 pR:=E3 i3 (by decide) P2 (.inr rfl)
theorem d5:yo mV (cK 40) pP:=f3.ok A8 (by decide) (kK _) (by decide)
theorem d6:yo pP Ox pN:=f4.ok i5 (by decide) (.inr (.inr (.inr (.inl rfl)))) (by decide)
theorem PV (x:UInt8) (hx:x.toNat<128) (he:Utf8.encode ((x.toNat:Nat):Int)=bs [x]):uQ 1 ((x.toNat:Nat):Int) (cK x):=.inl ⟨rfl,by omega,by omega,rfl,rfl,rfl,rfl,he⟩
theorem QU:uQ 2 0 Ox:=.inr (.inl ⟨rfl,rfl⟩)
theorem Qo:uQ 6 122 P1:=.inr (.inr (.inl ⟨rfl,rfl,rfl⟩))
theorem QT:uQ 7 122 P2:=.inr (.inr (.inr ⟨rfl,rfl,rfl⟩))
theorem MD:uQ 1 97 (cK 97):=PV 97 (by decide) (by decide +kernel)
theorem MC:uQ 1 98 (cK 98):=PV 98 (by decide) (by decide +kernel)
theorem PW:uQ 1 40 (cK 40):=PV 40 (by decide) (by decide +kernel)
theorem gV {s:By}{st:Nat->nr}{R:Nat->Prop}{i j:Nat}{q:Int×Int}(hn:DX s i=j) (hq:tq s i=q) (hR:R j) (hm:(st i).s.mode=0) (hk:uQ q.1 q.2 c) (hd:yo (st i) c (st j)):R (DX s i)/\(st i).s.mode=0/\∃c,uQ (tq s i).1 (tq s i).2 c/\yo (st i) c (st (DX s i)):=by
 rw[hn,hq];exact⟨hR,hm,c,hk,hd⟩
def HA:Nat->nr
 | 0=>mV
 | 1=>pA
 | 2=>LC
 | 3=>LC
 | 4=>pU
 | 5=>pU
 |_=>pR
def Pe:Nat->nr
 | 0=>mV
 | 1=>pP
 |_=>pN
section
variable {h:ai}(hg:kF h)
include hg
theorem Ix:af Tryz.prog 15 #[.string (bs [97,98])] h (aX fun r h'=>(∃eb:Nat,r= .pointer (some ⟨eb,0,none⟩)/\fZ Dj h.size h' eb LC)/\ak h h') :=
 j7 hg [97,98] (by decide) (fun i=>i<=2) HA rfl (by decide) (fun _ q=>q) fun i hi hl=>by
  match i,hl with
  | 0,_=>exact gV (s:=[97,98]) (st:=HA) (R:=fun i=>i<=2) (i:=0) (j:=1) (q:=(1,97)) (by decide) (by decide) (by decide) f1.1 MD @d1
  | 1,_=>exact gV (s:=[97,98]) (st:=HA) (R:=fun i=>i<=2) (i:=1) (j:=2) (q:=(1,98)) (by decide) (by decide) (by decide) f2.1 MC @d2
theorem Gv:af Tryz.prog 15 #[.string (bs [97,98,94,122])] h (aX fun r h'=>(∃eb:Nat,r= .pointer (some ⟨eb,0,none⟩)/\fZ Dj h.size h' eb pU)/\ak h h') :=
 j7 hg [97,98,94,122] (by decide) (fun i=>i<=4/\i≠3) HA rfl (by decide) (fun _ q=>q.1) fun i hi hl=>by
  match i,hi,hl with
  | 0,_,_=>exact gV (s:=[97,98,94,122]) (st:=HA) (R:=fun i=>i<=4/\i≠3) (i:=0) (j:=1) (q:=(1,97)) (by decide) (by decide) (by decide) f1.1 MD @d1
  | 1,_,_=>exact gV (s:=[97,98,94,122]) (st:=HA) (R:=fun i=>i<=4/\i≠3) (i:=1) (j:=2) (q:=(1,98)) (by decide) (by decide) (by decide) f2.1 MC @d2
  | 2,_,_=>exact gV (s:=[97,98,94,122]) (st:=HA) (R:=fun i=>i<=4/\i≠3) (i:=2) (j:=4) (q:=(6,122)) (by decide) (by decide) (by decide) i2.mode Qo @d3
  | 3,hi,_=>exact absurd rfl hi.2
theorem DR:af Tryz.prog 15 #[.string (bs [97,98,94,122,33,122])] h (aX fun r h'=>(∃eb:Nat,r= .pointer (some ⟨eb,0,none⟩)/\fZ Dj h.size h' eb pR)/\ak h h') :=
 j7 hg [97,98,94,122,33,122] (by decide) (fun i=>i<=6/\i≠3/\i≠5) HA rfl (by decide) (fun _ q=>q.1) fun i hi hl=>by
  match i,hi,hl with
  | 0,_,_=>exact gV (s:=[97,98,94,122,33,122]) (st:=HA) (R:=fun i=>i<=6/\i≠3/\i≠5) (i:=0) (j:=1) (q:=(1,97)) (by decide) (by decide) (by decide) f1.1 MD @d1
  | 1,_,_=>exact gV (s:=[97,98,94,122,33,122]) (st:=HA) (R:=fun i=>i<=6/\i≠3/\i≠5) (i:=1) (j:=2) (q:=(1,98)) (by decide) (by decide) (by decide) f2.1 MC @d2
  | 2,_,_=>exact gV (s:=[97,98,94,122,33,122]) (st:=HA) (R:=fun i=>i<=6/\i≠3/\i≠5) (i:=2) (j:=4) (q:=(6,122)) (by decide) (by decide) (by decide) i2.mode Qo @d3
  | 3,hi,_=>exact absurd rfl hi.2.1
  | 4,_,_=>exact gV (s:=[97,98,94,122,33,122]) (st:=HA) (R:=fun i=>i<=6/\i≠3/\i≠5) (i:=4) (j:=6) (q:=(7,122)) (by decide) (by decide) (by decide) i3.mode QT @d4
  | 5,hi,_=>exact absurd rfl hi.2.2
theorem Iw:af Tryz.prog 15 #[.string (bs [40,10])] h (aX fun r h'=>(∃eb:Nat,r= .pointer (some ⟨eb,0,none⟩)/\fZ Dj h.size h' eb pN)/\ak h h') :=
 j7 hg [40,10] (by decide) (fun i=>i<=2) Pe rfl (by decide) (fun _ q=>q) fun i hi hl=>by
  match i,hl with
  | 0,_=>exact gV (s:=[40,10]) (st:=Pe) (R:=fun i=>i<=2) (i:=0) (j:=1) (q:=(1,40)) (by decide) (by decide) (by decide) f3.1 PW @d5
  | 1,_=>exact gV (s:=[40,10]) (st:=Pe) (R:=fun i=>i<=2) (i:=1) (j:=2) (q:=(2,0)) (by decide) (by decide) (by decide) i5.mode QU @d6
theorem sw:af Tryz.prog 5 #[] h (aX fun r h'=>r= .bool true/\ak h h'):=by
 obtain⟨t1,t2,t3,t4,t5⟩:=Mp;refine af.of func5 rfl rfl ?_;refine b9 func5 1 [0] rfl ?_;refine xr func5 rfl ?_;refine xo rfl (ay (vs:=[_]) func15 rfl H.Kx rfl (af.cD (Ix hg))) ?_;rintro _ h1 ⟨⟨b1,rfl,K1⟩,e1⟩;refine xo rfl (ay (vs:=[_]) func15 rfl H.Kx rfl (af.cD (Gv (hg.aj e1)))) ?_;rintro _ h2 ⟨⟨b2,rfl,K2⟩,e2⟩;refine xo rfl (ay (vs:=[_]) func15 rfl H.Kx rfl (af.cD (DR ((hg.aj e1).aj e2)))) ?_;rintro _ h3 ⟨⟨b3,rfl,K3⟩,e3⟩;refine xo rfl (ay (vs:=[_]) func15 rfl H.Kx rfl (af.cD (Iw (((hg.aj e1).aj e2).aj e3)))) ?_;rintro _ h4 ⟨⟨b4,rfl,K4⟩,e4⟩;have K1:=((K1.aj e2).aj e3).aj e4;have K2:=(K2.aj e3).aj e4;have K3:=K3.aj e4;have e04:=((e1.trans e2).trans e3).trans e4;refine cV 4 [0,1,2,3,4] rfl ?_;refine aC rfl ?_;refine G.DP (fun(u:Unit) (h':ai)=>ak h4 h') (fun(u:Unit)=>[(0,.bool true)]) [(1,_),(2,_),(3,_),(4,_)] ⟨rfl,rfl,rfl,rfl,trivial⟩ func5 rfl ?_ ?_
 · refine dz 1 rfl ?_;refine xo rfl (ay (vs:=[_]) func8 rfl H.Nj rfl (af.cD (jX K1 i2.inv (by decide)))) ?_;rintro _ h5 ⟨⟨_,_,_,_,_,_,_,_,_,_,_,_,rfl⟩,e5⟩;refine xp rfl (an.field (off:=0) underlying31 rfl rfl H.ve rfl rfl) ?_;refine xp rfl (an.xm rfl rfl) ?_;refine dz 1 rfl ?_;refine RW.dK (d:=13) (b':=true) rfl (decide_eq_true (by exact congrArg bs t1)) ?_;refine dz 1 rfl ?_;refine xo rfl (ay (vs:=[_]) func8 rfl H.Nj rfl (af.cD (jX (K2.aj e5) i3.inv (by decide)))) ?_;rintro _ h6 ⟨⟨_,_,_,_,_,_,_,_,_,_,_,_,rfl⟩,e6⟩;refine xp rfl (an.field (off:=0) underlying31 rfl rfl H.ve rfl rfl) ?_;refine xp rfl (an.xm rfl rfl) ?_;refine dz 2 rfl ?_;refine RW.dK (d:=19) (b':=true) rfl (decide_eq_true (by exact congrArg bs t2)) ?_;refine dz 1 rfl ?_;refine xo rfl (ay (vs:=[_]) func8 rfl H.Nj rfl (af.cD (jX ((K3.aj e5).aj e6) i4.inv (by decide)))) ?_;rintro _ h7 ⟨⟨_,_,_,_,_,_,_,_,_,_,_,_,rfl⟩,e7⟩;refine xp rfl (an.field (off:=0) underlying31 rfl rfl H.ve rfl rfl) ?_;refine xp rfl (an.xm rfl rfl) ?_;refine dz 2 rfl ?_;refine RW.dK (d:=25) (b':=true) rfl (decide_eq_true (by exact congrArg bs t3)) ?_;refine dz 1 rfl ?_;refine xo rfl (ay (vs:=[_]) func8 rfl H.Nj rfl (af.cD (jX (((K4.aj e5).aj e6).aj e7) i6.inv (by decide)))) ?_;rintro _ h8 ⟨⟨_,_,_,_,_,_,_,_,_,_,_,_,rfl⟩,e8⟩;refine xp rfl (an.field (off:=0) underlying31 rfl rfl H.ve rfl rfl) ?_;refine xp rfl (an.xm rfl rfl) ?_;refine dz 2 rfl ?_;refine RW.dK (d:=31) (b':=true) rfl (decide_eq_true (by exact congrArg bs t4)) ?_;refine dz 1 rfl ?_;refine xo rfl (ay (vs:=[_]) func11 rfl H.N9 rfl (af.cD (yD ((((K4.aj e5).aj e6).aj e7).aj e8) (by rw[t4];decide)))) ?_;rintro _ h9 ⟨⟨_,_,rfl⟩,e9⟩;refine xp rfl (an.cM underlying41 rfl) ?_;refine dz 3 rfl ?_;refine RW.done rfl ?_;exact⟨(),((((e5.trans e6).trans e7).trans e8).trans e9),aq rfl (by exact decide_eq_true (by omega)),rfl,rfl,rfl,rfl,trivial⟩
 · rintro u h5 e5;refine bM func5 rfl rfl ?_;exact⟨_,rfl,rfl,e04.trans e5⟩
end
abbrev JZ (p:Value) (h:ai):Prop:=∀g,ak h g->af Tryz.prog 20 #[p] g (aX fun r h'=>r= .bool true/\h'=g)
theorem G3:af Tryz.prog 20 #[.pointer none] h (aX fun r h'=>r= .bool true/\h'=h):=by
 refine af.of func20 rfl rfl ?_;refine b9 func20 1 [0,2] rfl ?_;refine aC rfl ?_;refine G.eF [(2,.bool true)] [(0,_)] ⟨rfl,trivial⟩ func20 rfl ?_ ?_
 · refine eU 1 rfl rfl (an.eH underlying24 rfl rfl) ?_;refine dz 1 rfl ?_;refine RW.dK (d:=5) (b':=true) rfl (rfl) ?_;refine dz 7 rfl ?_;refine RW.done rfl ?_;exact⟨rfl,aq rfl (rfl),rfl,trivial⟩
 · refine bM func20 rfl rfl ?_;exact⟨_,rfl,rfl,rfl⟩
def Qj:List Value:=[.string (bs []),.int .i64 0,.int .i64 0,.int .i64 0,.slice none 0 0,.slice none 0 0,.int .i64 0,.string (bs []),.int .i64 0,.int .i64 0,.int .i64 0,.string (bs []),.int .i64 0,.string (bs []),.int .i64 0,.int .i64 0,.slice none 0 0,.slice none 0 0,.int .i64 0,.pointer none,.pointer none,.pointer none,.int .i64 0,.bool false,.int .i64 0,.int .i32 0]
theorem Eo (k:aE h eb 57 Qj):af Tryz.prog 20 #[.pointer (some ⟨eb,0,none⟩)] h (aX fun r h'=>r= .bool true/\h'=h):=by
 refine af.of func20 rfl rfl ?_;refine b9 func20 1 [0,2] rfl ?_;refine aC rfl ?_;refine G.eF [(2,.bool true)] [(0,_)] ⟨rfl,trivial⟩ func20 rfl ?_ ?_
 · refine eU 1 rfl rfl (an.eH underlying24 rfl rfl) ?_;refine dz 1 rfl ?_;refine RW.dK (d:=5) (b':=false) rfl (rfl) ?_;refine eU 2 rfl rfl (aa (off:=21) underlying57 rfl rfl H.Kn rfl) ?_;refine xp rfl (au H.JO rfl (k.cell (i:=21) rfl)) ?_;refine xp rfl (an.eH underlying51 rfl rfl) ?_;refine dz 2 rfl ?_;refine RW.done rfl ?_;exact⟨rfl,aq rfl (rfl),rfl,trivial⟩
 · refine bM func20 rfl rfl ?_;exact⟨_,rfl,rfl,rfl⟩
section
variable {h:ai}{p:Value}
theorem Oq (hn:JZ p h) (c:Cm):af Tryz.prog 7 #[p,HE c] h (aX fun _ h'=>ak h h'):=by
 refine af.of func7 rfl rfl ?_;refine xr func7 rfl ?_;refine xo rfl (az.iQ rfl) ?_;rintro _ h1 ⟨rfl,k1,e1,z1⟩;refine xd [0,1,3] rfl ?_;refine aC rfl ?_;refine G.block rfl rfl ?_;refine eB func7 1 rfl ?_;refine xo rfl (ay (vs:=[_]) func20 rfl H.uL rfl (af.cD (hn _ e1))) ?_;rintro _ h2 ⟨rfl,hh⟩;refine cV 1 [0,1,3,13] rfl ?_;subst hh;refine aA rfl rfl (fun _=>?_) (fun hc=>absurd hc (by decide));refine bM func7 rfl rfl ?_;exact⟨_,rfl,e1⟩
theorem MB (hn:JZ p h) (k r:Int) (t:By):af Tryz.prog 10 #[p,.agg #[.int .i64 k,.int .i32 r,.string (bs t)]] h (aX fun _ h'=>ak h h'):=by
 refine af.of func10 rfl rfl ?_;refine xr func10 rfl ?_;refine xo rfl (az.iQ rfl) ?_;rintro _ h1 ⟨rfl,k1,e1,z1⟩;refine xd [0,1,3] rfl ?_;refine aC rfl ?_;refine eB func10 1 rfl ?_;refine xo rfl (ay (vs:=[_]) func20 rfl H.uL rfl (af.cD (hn _ e1))) ?_;rintro _ h2 ⟨rfl,hh⟩;refine xd [0,1,3,8] rfl ?_;subst hh;refine aA rfl rfl (fun _=>?_) (fun hc=>absurd hc (by decide));refine bM func10 rfl rfl ?_;exact⟨_,rfl,e1⟩
theorem BI (hn:JZ p h):af Tryz.prog 8 #[p] h (aX fun r h'=>r= .agg #[.string ⟨#[]⟩,.int .i64 0,.int .i64 0,.int .i64 0,.slice none 0 0,.slice none 0 0,.int .i64 0,.string ⟨#[]⟩,.int .i64 0,.int .i64 0,.int .i64 0,.string ⟨#[]⟩,.int .i64 0,.string ⟨#[]⟩,.int .i64 0,.int .i64 0,.slice none 0 0,.slice none 0 0,.int .i64 0]/\ak h h'):=by
 refine af.of func8 rfl rfl ?_;refine xr func8 rfl ?_;refine xo rfl (az.cC H.zY) ?_;rintro _ h1 ⟨rfl,k1,e1,z1⟩;refine xd [0,2] rfl ?_;refine aC rfl ?_;refine eB func8 1 rfl ?_;refine xo rfl (ay (vs:=[_]) func20 rfl H.uL rfl (af.cD (hn _ e1))) ?_;rintro _ h2 ⟨rfl,hh⟩;refine xd [0,2,5] rfl ?_;subst hh;refine aA rfl rfl (fun _=>?_) (fun hc=>absurd hc (by decide));refine xr func8 rfl ?_;refine xp rfl (aB (H.OB ) rfl) ?_;refine RW.fS rfl rfl rfl (az.aH H.cn rfl rfl k1 (by first|rfl|(simp;done)|(simp;omega)) (by first|decide|exact of_decide_eq_true rfl|(simp;done)|(simp;omega)) (by first|decide|simp[Value.oneCell'])) ?_;rintro _ h3 ⟨rfl,k3,x3,z3⟩;refine xd [0,2,5] rfl ?_;refine G.qu func8 rfl (.cons (cP.nM H.iZ H.cn rfl (k3.row) (by first|rfl|(simp;done)|(simp;omega))) (.nil)) ?_;exact⟨_,rfl,rfl,ak.only e1 x3 (Nat.le_refl _)⟩
theorem F3 (hn:JZ p h):af Tryz.prog 11 #[p] h (aX fun r h'=>r= .slice none 0 0/\h'=h):=by
 refine af.of func11 rfl rfl ?_;refine b9 func11 1 [0,2] rfl ?_;refine aC rfl ?_;refine eB func11 1 rfl ?_;refine xo rfl (ay (vs:=[_]) func20 rfl H.uL rfl (af.cD (hn _ (Ext.refl _ _)))) ?_;rintro _ h2 ⟨rfl,hh⟩;refine xd [0,2,4] rfl ?_;subst hh;refine aA rfl rfl (fun _=>?_) (fun hc=>absurd hc (by decide));refine b9 func11 1 [0,2,4] rfl ?_;refine bM func11 rfl rfl ?_;exact⟨_,rfl,rfl,rfl⟩
theorem F7 (hn:JZ p h):af Tryz.prog 13 #[p] h (aX fun r h'=>r= .slice none 0 0/\h'=h):=by
 refine af.of func13 rfl rfl ?_;refine b9 func13 1 [0,2] rfl ?_;refine aC rfl ?_;refine eB func13 1 rfl ?_;refine xo rfl (ay (vs:=[_]) func20 rfl H.uL rfl (af.cD (hn _ (Ext.refl _ _)))) ?_;rintro _ h2 ⟨rfl,hh⟩;refine xd [0,2,8] rfl ?_;subst hh;refine aA rfl rfl (fun _=>?_) (fun hc=>absurd hc (by decide));refine b9 func13 1 [0,2,8] rfl ?_;refine bM func13 rfl rfl ?_;exact⟨_,rfl,rfl,rfl⟩
theorem Ih (hn:JZ p h):af Tryz.prog 14 #[p] h (aX fun r h'=>r= .int .i64 0/\h'=h):=by
 refine af.of func14 rfl rfl ?_;refine b9 func14 1 [0,2] rfl ?_;refine aC rfl ?_;refine eB func14 1 rfl ?_;refine xo rfl (ay (vs:=[_]) func20 rfl H.uL rfl (af.cD (hn _ (Ext.refl _ _)))) ?_;rintro _ h2 ⟨rfl,hh⟩;refine xd [0,2,4] rfl ?_;subst hh;refine aA rfl rfl (fun _=>?_) (fun hc=>absurd hc (by decide));refine b9 func14 1 [0,2,4] rfl ?_;refine bM func14 rfl rfl ?_;exact⟨_,rfl,rfl,rfl⟩
theorem MM (hn:JZ p h):af Tryz.prog 12 #[p] h (aX fun r h'=>r= .agg (aK (0,0)).toArray/\ak h h'):=by
 refine af.of func12 rfl rfl ?_;refine xr func12 rfl ?_;refine xo rfl (az.cC H.Bx) ?_;rintro _ h1 ⟨rfl,k1,e1,z1⟩;refine xd [0,2] rfl ?_;refine aC rfl ?_;refine eB func12 1 rfl ?_;refine xo rfl (ay (vs:=[_]) func20 rfl H.uL rfl (af.cD (hn _ e1))) ?_;rintro _ h2 ⟨rfl,hh⟩;refine xd [0,2,4] rfl ?_;subst hh;refine aA rfl rfl (fun _=>?_) (fun hc=>absurd hc (by decide));refine xr func12 rfl ?_;refine xp rfl (aB (H.JH ) rfl) ?_;refine RW.fS rfl rfl rfl (az.aH H.ia rfl rfl k1 (by first|rfl|(simp;done)|(simp;omega)) (by first|decide|exact of_decide_eq_true rfl|(simp;done)|(simp;omega)) (bL (0,0))) ?_;rintro _ h3 ⟨rfl,k3,x3,z3⟩;refine xd [0,2,4] rfl ?_;have k3:aE h3 h.size 44 (aK (0,0)):=k3;refine G.qu func12 rfl (.cons (cP.nM H.xX H.ia rfl (k3.row) (by first|rfl|(simp;done)|(simp;omega))) (.nil)) ?_;exact⟨_,rfl,rfl,ak.only (h0:=h) e1 x3 (Nat.le_refl _)⟩
end
theorem A9 {g:ai}{b:Nat}{pr ci:Bool}{c0 c1 c2 kk kr:Int}{ct kt:By}(hr:Lw.rowAt g b 0 [.bool pr,.int .i64 c0,.int .i64 c1,.int .i64 c2,.string (bs ct),.bool ci,.int .i64 kk,.int .i32 kr,.string (bs kt)]) :
 af Tryz.prog 9 #[.slice (some ⟨b,0,none⟩) 1 1,.int .i64 1] g (aX fun r h'=>r= .bool (decide (200<ct.length\/200<kt.length))/\h'=g):=by
 have hb1:=aF ct;have hb2:=aF kt;refine af.of func9 rfl rfl ?_;refine b9 func9 1 [0,1,4] rfl ?_;refine aC rfl ?_;refine b9 func9 1 [0,1,4,5] rfl ?_;refine G.block rfl rfl ?_;refine hU (σ:=Nat) (fun i=>[(0,.slice (some ⟨b,0,none⟩) 1 1),(1,.int .i64 1),(5,.int .i64 (i:Nat))]) (fun i g'=>g=g'/\i<=1/\(1<=i->¬(200<ct.length\/200<kt.length))) (fun i=>1-i) (0) rfl ⟨rfl,rfl,rfl,trivial⟩ ⟨rfl,by decide,fun q=>absurd q (by decide)⟩ ?_;rintro i g' ⟨hgg,hi,hno⟩ ih;subst hgg;refine aC rfl ?_;refine eB func9 2 rfl ?_;refine xp rfl (an.cM underlying39 rfl) ?_;refine cV 1 [0,1,5,9] rfl ?_;refine dQ rfl rfl (fun hlt=>?_) (fun hlt=>?_)
 · obtain rfl:i=0:=by omega
   refine aR rfl ?_;refine aC rfl ?_;refine G.block rfl rfl ?_;refine aC rfl ?_;refine G.eF [(29,.bool (decide (200<ct.length\/200<kt.length)))] [(0,_),(1,_),(5,_),(9,_)] ⟨rfl,rfl,rfl,rfl,trivial⟩ func9 rfl ?_ ?_
   · refine eU 2 rfl rfl (an.cx underlying39 H.Mg rfl rfl 0 rfl rfl (by omega)) ?_;refine xp rfl (aa (off:=1) underlying37 rfl rfl H.sS rfl) ?_;refine xp rfl (aa (off:=3) underlying28 rfl rfl H.lS rfl) ?_;refine xp rfl (au H.ve rfl (hr 4 _ rfl)) ?_;refine xp rfl (an.bH underlying9 rfl) ?_;refine dz 2 rfl ?_;refine RW.split (d:=20) rfl (fun q1=>?_) (fun q1=>?_)
     · have q1:=of_decide_eq_true q1;refine dz 9 rfl ?_;refine RW.done rfl ?_;exact⟨rfl,aq rfl (by exact(decide_eq_true (.inl (by omega))).symm),rfl,rfl,rfl,rfl,trivial⟩
     · have q1:=of_decide_eq_false q1;refine eU 2 rfl rfl (an.cx underlying39 H.Mg rfl rfl 0 rfl rfl (by omega)) ?_;refine xp rfl (aa (off:=6) underlying37 rfl rfl H.rz rfl) ?_;refine xp rfl (aa (off:=2) underlying35 rfl rfl H.lS rfl) ?_;refine xp rfl (au H.ve rfl (hr 8 _ rfl)) ?_;refine xp rfl (an.bH underlying9 rfl) ?_;refine dz 2 rfl ?_;refine RW.done rfl ?_;exact⟨rfl,aq rfl (by exact decide_eq_decide.2 (by omega)),rfl,rfl,rfl,rfl,trivial⟩
   · refine dQ rfl rfl (fun hb=>?_) (fun hb=>?_)
     · refine b9 func9 1 [0,1,4,5,9,29] rfl ?_;refine bM func9 rfl rfl ?_;exact⟨_,rfl,by rw[decide_eq_true hb];rfl,rfl⟩
     · refine aR rfl ?_;refine G.cz ?_;refine G.eM func9 rfl ?_;refine eU 1 rfl rfl (an.dm rfl rfl ⟨by omega,by omega⟩) ?_;refine cV 1 [0,1,5,9,29] rfl ?_;exact ih (0+1) _ _ ⟨rfl,rfl,rfl,trivial⟩ ⟨rfl,by decide,fun _=>hb⟩ (by decide)
 · refine jb rfl rfl ?_;refine eB func9 1 rfl ?_;refine xp rfl (an.cM underlying39 rfl) ?_;refine cV 3 [0,1,4,5,9] rfl ?_;refine bM func9 rfl rfl ?_;exact⟨_,rfl,by rw[decide_eq_false (hno (by omega))];rfl,rfl⟩
theorem tB (hg:kF h) (pr:Bool) (c:Cm) (kk kr:Int) (kt:By) :
 af Tryz.prog 4 #[.agg #[.bool pr,.int .i64 c.kind,.int .i64 c.way,.int .i64 c.n,.string (bs c.text),.bool c.incl,.int .i64 kk,.int .i32 kr,.string (bs kt)]] h (aX fun r h'=>r= .bool true/\ak h h'):=by
 refine af.of func4 rfl rfl ?_;refine xr func4 rfl ?_;refine xo rfl (az.iQ rfl) ?_;rintro _ h1 ⟨rfl,k1,e1,z1⟩;have k1:aE h1 h.size 37 [.bool pr,.int .i64 c.kind,.int .i64 c.way,.int .i64 c.n,.string (bs c.text),.bool c.incl,.int .i64 kk,.int .i32 kr,.string (bs kt)]:=k1;refine cV 1 [0,1,2] rfl ?_;refine aC rfl ?_;refine xr func4 rfl ?_;refine xp rfl (an.aG H.Qa H.Mg rfl k1.row (by first|rfl|(simp;done)|(simp;omega))) ?_;refine xo rfl (az.Hh underlying39 H.P0 ([[.bool pr,.int .i64 c.kind,.int .i64 c.way,.int .i64 c.n,.string (bs c.text),.bool c.incl,.int .i64 kk,.int .i32 kr,.string (bs kt)]]) rfl rfl (by decide) (by simp<;>repeat' (first|rfl|constructor))) ?_;rintro _ h2 ⟨rfl,hh2⟩;have e2:ak h1 h2:=by rw[hh2];exact Ext.push _ _ _
 have hr2:Lw.rowAt h2 h1.size 0 [.bool pr,.int .i64 c.kind,.int .i64 c.way,.int .i64 c.n,.string (bs c.text),.bool c.incl,.int .i64 kk,.int .i32 kr,.string (bs kt)]:=by rw[hh2];exact cJ h1 _ _
 have e02:=e1.trans e2;refine xo rfl (ay (vs:=[_,_]) func9 rfl H.QM rfl (af.cD (A9 hr2))) ?_;rintro _ h3 ⟨rfl,hh3⟩;refine xd [0,1,2,7] rfl ?_;subst hh3;refine dQ rfl rfl (fun hbig=>?_) (fun hbig=>?_)
 · refine xr func4 rfl ?_;refine xo rfl (ay (vs:=[]) func5 rfl H.Qn rfl (af.cD (sw (hg.aj e02)))) ?_;rintro _ h4 ⟨rfl,e4⟩;refine cV 1 [0,1,2,7] rfl ?_;refine bM func4 rfl rfl ?_;exact⟨_,rfl,rfl,e02.trans e4⟩
 · refine aR rfl ?_;refine b9 func4 1 [0,1,2,3,7] rfl ?_;refine aC rfl ?_;refine b9 func4 1 [0,1,2,3,4,7] rfl ?_;refine G.block rfl rfl ?_;refine hU (σ:=Nat×Option Addr) (fun q=>[(1,.pointer (some ⟨h.size,0,none⟩)),(3,.pointer q.2),(4,.int .i64 (q.1:Nat))]) (fun q g=>q.1<=2/\ak h1 g/\JZ (.pointer q.2) g) (fun q=>2-q.1) ((0,none)) rfl ⟨rfl,rfl,rfl,trivial⟩ ⟨Nat.zero_le _,e2,fun _ _=>G3⟩ ?_;rintro⟨i,p⟩ g ⟨hi,eg,hn⟩ ih
   try dsimp only
   dsimp only at hi hn;have e0g:ak h g:=e1.trans eg;have kg:=k1.aj eg
   have hcr:∀g',ak g g'->Lw.rowAt g' h.size (0+1) (Ey c):=fun g' x j v hv=>by
    have k:=kg.aj x
    match j,hv with
    | 0,hv=>cases hv;exact k.cell (i:=1) rfl
    | 1,hv=>cases hv;exact k.cell (i:=2) rfl
    | 2,hv=>cases hv;exact k.cell (i:=3) rfl
    | 3,hv=>cases hv;exact k.cell (i:=4) rfl
    | 4,hv=>cases hv;exact k.cell (i:=5) rfl
   have hkr:∀g',ak g g'->Lw.rowAt g' h.size (0+6) [.int .i64 kk,.int .i32 kr,.string (bs kt)]:=fun g' x j v hv=>by
    have k:=kg.aj x
    match j,hv with
    | 0,hv=>cases hv;exact k.cell (i:=6) rfl
    | 1,hv=>cases hv;exact k.cell (i:=7) rfl
    | 2,hv=>cases hv;exact k.cell (i:=8) rfl
   refine aC rfl ?_;refine b9 func4 2 [1,3,4,10] rfl ?_;refine dQ rfl rfl (fun hlt=>?_) (fun hlt=>?_)
   · refine aR rfl ?_;refine aC rfl ?_;refine G.block rfl rfl ?_;refine eB func4 1 rfl ?_;refine xp rfl (aa (off:=1) underlying37 rfl rfl H.sS rfl) ?_;refine xp rfl (an.aG H.Br H.sS rfl (hcr g (Ext.refl _ _)) (by first|rfl|(simp;done)|(simp;omega))) ?_;refine xo rfl (ay (vs:=[_,_]) func7 rfl H.Qm rfl (af.cD (Oq hn c))) ?_;rintro _ g1 f1;refine xd [1,3,4,10] rfl ?_;refine eB func4 1 rfl ?_;refine xp rfl (aa (off:=6) underlying37 rfl rfl H.rz rfl) ?_;refine xp rfl (an.aG H.Bq H.rz rfl (hkr g1 f1) (by first|rfl|(simp;done)|(simp;omega))) ?_;refine xo rfl (ay (vs:=[_,_]) func10 rfl H.IM rfl (af.cD (MB (fun g' x=>hn g' (f1.trans x)) kk kr kt))) ?_;rintro _ g2 f2;have hn2:JZ (.pointer p) g2:=fun g' x=>hn g' ((f1.trans f2).trans x)
     refine xd [1,3,4,10] rfl ?_;refine aC rfl ?_;refine aC rfl ?_;refine G.DP (fun(_u:Unit) (h':ai)=>ak g2 h') (fun(_u:Unit)=>[(53,.bool false)]) [(1,_),(3,_),(4,_),(10,_)] ⟨rfl,rfl,rfl,rfl,trivial⟩ func4 rfl ?_ ?_
     · refine dz 1 rfl ?_;refine xo rfl (ay (vs:=[_]) func8 rfl H.Nj rfl (af.cD (BI hn2))) ?_;rintro _ g3 ⟨rfl,f3⟩;refine xp rfl (an.field (off:=0) underlying31 rfl rfl H.ve rfl rfl) ?_;refine xp rfl (an.AK rfl rfl) ?_;refine dz 1 rfl ?_;refine RW.dK (d:=25) (b':=false) rfl (by simp) ?_;refine dz 1 rfl ?_;refine xo rfl (ay (vs:=[_]) func8 rfl H.Nj rfl (af.cD (BI (fun g' x=>hn2 g' (f3.trans x))))) ?_;rintro _ g4 ⟨rfl,f4⟩;refine xp rfl (an.field (off:=18) underlying31 rfl rfl H.gS rfl rfl) ?_;refine dz 3 rfl ?_;refine RW.dK (d:=31) (b':=false) rfl (by simp) ?_;have hn4:JZ (.pointer p) g4:=fun g' x=>hn2 g' ((f3.trans f4).trans x)
       refine dz 1 rfl ?_;refine xo rfl (ay (vs:=[_]) func11 rfl H.N9 rfl (af.cD (F3 hn4))) ?_;rintro _ g5 ⟨rfl,hh⟩;subst hh;refine xp rfl (an.cM underlying41 rfl) ?_;refine dz 3 rfl ?_;refine RW.dK (d:=37) (b':=false) rfl (by decide) ?_;refine dz 1 rfl ?_;refine xo rfl (ay (vs:=[_]) func12 rfl H.PU rfl (af.cD (MM hn4))) ?_;rintro _ g6 ⟨rfl,f6⟩;refine xp rfl (aB (H.JH ) rfl) ?_;refine xp rfl (an.Mz Fx Ig Jc rfl rfl (NO _ (0,0))) ?_;have hn6:JZ (.pointer p) g6:=fun g' x=>hn4 g' (f6.trans x)
       refine dz 2 rfl ?_;refine RW.dK (d:=43) (b':=false) rfl (by simp) ?_;refine dz 1 rfl ?_;refine xo rfl (ay (vs:=[_]) func13 rfl H.PT rfl (af.cD (F7 hn6))) ?_;rintro _ g7 ⟨rfl,hh⟩;subst hh;refine xp rfl (an.cM underlying46 rfl) ?_;refine dz 3 rfl ?_;refine RW.dK (d:=49) (b':=false) rfl (by decide) ?_;refine dz 1 rfl ?_;refine xo rfl (ay (vs:=[_]) func14 rfl H.PS rfl (af.cD (Ih hn6))) ?_;rintro _ g8 ⟨rfl,hh⟩;subst hh;refine dz 2 rfl ?_;refine RW.done rfl ?_;exact⟨(),((f3.trans f4).trans f6),aq rfl (by simp),rfl,rfl,rfl,rfl,trivial⟩
     · rintro _ g9 f9;refine aA rfl rfl (fun hc=>absurd hc (by decide)) (fun _=>?_);refine aR rfl ?_;refine G.eM func4 rfl ?_;refine xp rfl (aB (H.OA ) rfl) ?_;refine xo rfl (az.iQ rfl) ?_;rintro _ gz ⟨rfl,kz,ez,zz⟩;refine cV 1 [1,3,4,10,53] rfl ?_;refine G.cz ?_;refine G.eM func4 rfl ?_;refine eU 1 rfl rfl (an.dm rfl rfl ⟨by omega,by omega⟩) ?_;refine cV 1 [1,3,4,10,53] rfl ?_;have kz:aE gz g9.size 57 Qj:=kz;exact ih (i+1,some ⟨g9.size,0,none⟩) _ _ ⟨rfl,rfl,rfl,trivial⟩ ⟨by show i+1<=2;omega,(((eg.trans f1).trans f2).trans f9).trans ez,fun g' x=>Eo (kz.aj x)⟩ (by show 2-(i+1)<2-i;omega)
   · refine jb rfl rfl ?_;refine xr func4 rfl ?_;refine xo rfl (ay (vs:=[]) func5 rfl H.Qn rfl (af.cD (sw (hg.aj e0g)))) ?_;rintro _ g1 ⟨rfl,f1⟩;refine cV 1 [1,2,3,4,10] rfl ?_;refine bM func4 rfl rfl ?_;exact⟨_,rfl,rfl,e0g.trans f1⟩
end
end Go.Proofs.YtpjgdgdnbkjoiaaGreatDoor
