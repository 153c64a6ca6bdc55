/- What the proof of the statement leans on (part 31). -/
import Derived.Test.YtpjgdgdnbkjoiaaGreatDoorQzd

namespace Go.Proofs.YtpjgdgdnbkjoiaaGreatDoor
open Go.Proofs.Tryz
open Go Go.Lw
set_option maxRecDepth 20000
section
variable {h h':ai}{b eb:Nat}{O:Nat->Prop}{s:MS}
abbrev sJ (Z:Nat->Prop) (eb db ub:Nat) (wv gv:Value):Nat->Prop:=fun y=>y=eb\/y=db\/rC ub wv gv y\/Z y
abbrev Ck:Nat->Prop:=fun _=>False
def La (s:MS) (rv hv lv fv tv:Value) (ub db:Nat):List Value:=s8 s rv hv lv fv++[tv,.pointer (some ⟨ub,0,none⟩),.pointer (some ⟨db,0,none⟩),.int .i64 0,.bool false,.int .i64 0,.int .i32 0]
def nP (base:Nat) (h:ai):Nat->Prop:=fun y=>base<=y/\(bC h y 57\/bC h y 94\/bC h y 88\/bC h y 85)
structure rB (Z:Nat->Prop) (base:Nat) (h:ai) (eb db ub:Nat) (wv gv tv rv hv lv fv:Value) (n:Int) (s:MS) (u:yH):Prop where
 blk:aD h eb 57 (La s rv hv lv fv tv ub db)
 txt:BG Z h tv s.text
 un:gi Z h ub wv gv u
 doc:gw (sJ Z eb db ub wv gv) h db s.text n
 ms:vC (sJ Z eb db ub wv gv) h s rv hv lv fv
 low:∀y,sJ Ck eb db ub wv gv y->base<=y
 zt:∀y,Z y->bC h y 9
def eC (Z:Nat->Prop) (base:Nat) (h:ai) (eb:Nat) (e:iP):Prop:=∃db ub wv gv tv rv hv lv fv n,rB Z base h eb db ub wv gv tv rv hv lv fv n e.s e.u
theorem bC.lt {t:TypeId}(k:bC h b t):b<h.size:=by
 obtain⟨_,_,q⟩:=k;exact(Array.getElem?_eq_some_iff.1 q).1
theorem bC.back {M:Nat->Prop}{t:TypeId}(k:bC h' b t) (x:Ext M h h') (hb:b<h.size) (hm:¬M b):bC h b t:=by
 obtain⟨c,f,q⟩:=k;exact⟨c,f,(x.block b hb hm).symm.trans q⟩
theorem nP.back {base:Nat}{h h':ai}(x:Ext (nP base h) h h'):∀y,y<h.size->nP base h' y->nP base h y:=fun y hy q=>by
 by_cases hm:nP base h y
 · exact hm
 · obtain⟨q1,q2⟩:=q;exact⟨q1,q2.imp (bC.back · x hy hm) (fun q=>q.imp (bC.back · x hy hm) (fun q=>q.imp (bC.back · x hy hm) (bC.back · x hy hm)))⟩
theorem nP.trans {base:Nat}{h h1 h2:ai}(x:Ext (nP base h) h h1) (y:Ext (nP base h1) h1 h2):Ext (nP base h) h h2 :=
 ⟨Nat.le_trans x.size y.size,fun b hb hm=>(y.block b (Nat.lt_of_lt_of_le hb x.size) fun q=>hm (nP.back x b hb q)).trans (x.block b hb hm)⟩
section
variable {Z:Nat->Prop}{base:Nat}{h h':ai}{eb db ub:Nat}{wv gv tv rv hv lv fv:Value}{n:Int}{s:MS}{u:yH}
theorem rB.Bn (k:rB Z base h eb db ub wv gv tv rv hv lv fv n s u):bC h db 94:=by obtain⟨_,_,_,_,_,_,_,_,_,kk,_⟩:=k.doc;exact kk.ty
theorem rB.LF (k:rB Z base h eb db ub wv gv tv rv hv lv fv n s u):bC h ub 88:=by obtain⟨_,kk,_⟩:=k.un.blk;exact kk.ty
theorem rB.ty (k:rB Z base h eb db ub wv gv tv rv hv lv fv n s u):∀y,sJ Ck eb db ub wv gv y->nP base h y:=fun y q=>⟨k.low y q,by
 rcases q with rfl|rfl|(rfl|q|q)|q
 · exact .inl k.blk.ty
 · exact .inr (.inl k.Bn)
 · exact .inr (.inr (.inl k.LF))
 · exact .inr (.inr (.inr (k.un.zj _ q)))
 · exact .inr (.inr (.inr (k.un.CN _ q)))
 · exact q.elim⟩
theorem sJ.split {y:Nat}(q:sJ Z eb db ub wv gv y):sJ Ck eb db ub wv gv y\/Z y:=by
 rcases q with q|q|q|q
 · exact .inl (.inl q)
 · exact .inl (.inr (.inl q))
 · exact .inl (.inr (.inr (.inl q)))
 · exact .inr q
theorem nP.lt {y:Nat}(q:nP base h y):y<h.size:=by
 rcases q.2 with q|q|q|q<;>exact q.lt
theorem nP.ns {y z:Nat}(q:nP base h y) (k:bC h z 9):y≠z:=by
 rcases q.2 with q|q|q|q<;>exact q.ne k (by decide)
theorem rB.lt (k:rB Z base h eb db ub wv gv tv rv hv lv fv n s u):∀y,sJ Z eb db ub wv gv y->y<h.size:=fun y q=>by
 rcases sJ.split q with q|q
 · exact(k.ty y q).lt
 · exact(k.zt y q).lt
theorem rB.uq (k:rB Z base h eb db ub wv gv tv rv hv lv fv n s u):eK (sJ Z eb db ub wv gv) h (.agg (s8 s rv hv lv fv).toArray) s:=⟨_,_,_,_,rfl,k.ms⟩
theorem rB.lx (k:rB Z base h eb db ub wv gv tv rv hv lv fv n s u):lf h:=by obtain⟨_,_,_,_,_,kG,_,k3,_⟩:=k.doc;exact kG.aj k3
theorem rB.aj (k:rB Z base h eb db ub wv gv tv rv hv lv fv n s u) (x:an h h'):rB Z base h' eb db ub wv gv tv rv hv lv fv n s u :=
 ⟨k.blk.aj x,k.txt.mv (Mv.D9 x),k.un.aj x,k.doc.aj x,k.ms.aj x,k.low,fun y q=>(k.zt y q).ext x (fun q=>q)⟩
end
theorem eC.aj {Z:Nat->Prop}{base:Nat}{h h':ai}{eb:Nat}{e:iP}(k:eC Z base h eb e) (x:an h h'):eC Z base h' eb e:=by
 obtain⟨_,_,_,_,_,_,_,_,_,_,k⟩:=k;exact⟨_,_,_,_,_,_,_,_,_,_,k.aj x⟩
theorem gw.others {O' M:Nat->Prop}{s:By}{n:Int}(k:gw O h b s n) (x:Ext M h h') (hM:∀y,M y->O y/\y≠b) (hO:∀y,O' y->O y\/h.size<=y):gw O' h' b s n:=by
 obtain⟨h0,lb,tv,sv,pv,kG,kL,k3,hb0,kd,ht,hs,hp⟩:=k;have hz:=k3.size;have hbl:=kd.lt
 have m:Mv (fun x=>x=b\/O x) (fun x=>x=b\/O' x) h h':=Mv.cE x (fun y hy hn=>⟨fun q=>hn (.inr (hM y q).1),fun q=>by
  rcases q with q|q
  · exact hn (.inl q)
  · rcases hO y q with q|q
    · exact hn (.inr q)
    · omega⟩)
 have e0:an h0 h':=⟨Nat.le_trans k3.size x.size,fun y hy _=>(x.block y (by omega) (fun q=>by have:=hb0.2 y (hM y q).1;omega)).trans (k3.block y hy (fun q=>q))⟩
 exact⟨h0,lb,tv,sv,pv,kG,kL.mv m,e0,⟨hb0.1,fun y q=>by rcases hO y q with q|q;exact hb0.2 y q;omega⟩,kd.ext x (fun q=>(hM b q).2 rfl),ht.mv m,hs.mv m,hp.mv m⟩
theorem eC.NP {Z Z':Nat->Prop}{base:Nat}{e:iP}(k:eC Z base h eb e) (x:Ext Z h h') (hZ:∀y,Z' y->Z y\/h.size<=y) (hz':∀y,Z' y->bC h' y 9):eC Z' base h' eb e:=by
 obtain⟨db,ub,wv,gv,tv,rv,hv,lv,fv,n,k⟩:=k;have hne:∀y,sJ Ck eb db ub wv gv y->¬Z y:=fun y q q2=>(k.ty y q).ns (k.zt y q2) rfl
 have hm:∀y,sJ Z' eb db ub wv gv y->sJ Z eb db ub wv gv y\/h.size<=y:=fun y q=>by
  rcases q with q|q|q|q
  · exact .inl (.inl q)
  · exact .inl (.inr (.inl q))
  · exact .inl (.inr (.inr (.inl q)))
  · exact(hZ y q).imp (fun q=>.inr (.inr (.inr q))) (fun q=>q)
 have mO:Mv (Ot Z h) (Ot Z' h') h h':=Mv.cE x fun b hb q=>by
  have q1:(bC h b 137\/bC h b 9)/\¬Z b:=Classical.byContradiction q;refine⟨q1.2,fun q3=>q3 ⟨q1.1.imp (fun q=>q.ext x q1.2) (fun q=>q.ext x q1.2),fun q4=>?_⟩⟩
  rcases hZ b q4 with q4|q4
  · exact q1.2 q4
  · omega
 have mM:Mv (sJ Z eb db ub wv gv) (sJ Z' eb db ub wv gv) h h':=Mv.cE x fun b hb q=>⟨fun q2=>q (.inr (.inr (.inr q2))),fun q2=>by
  rcases hm b q2 with q2|q2
  · exact q q2
  · omega⟩
 obtain⟨tu,kb,kt⟩:=k.un.blk;refine⟨db,ub,wv,gv,tv,rv,hv,lv,fv,n,k.blk.ext x (hne eb (.inl rfl)),k.txt.mv mO,⟨⟨tu,kb.ext x (hne ub (.inr (.inr (.inl (.inl rfl))))),kt.mv mO⟩,k.un.were.Dv x (fun b hb=>hne b (.inr (.inr (.inl (.inr (.inl hb)))))) (fun b hb q q2=>q2.2 q) (fun b hb q q2=>?_),k.un.gone.Dv x (fun b hb=>hne b (.inr (.inr (.inl (.inr (.inr hb)))))) (fun b hb q q2=>q2.2 q) (fun b hb q q2=>?_),k.un.ne⟩,k.doc.others x (fun y q=>⟨.inr (.inr (.inr q)),fun q2=>hne db (.inr (.inl rfl)) (q2▸q)⟩) hm,k.ms.mv mM,k.low,hz'⟩
 · exact(mO.block b hb (fun q3=>q3 q2)).2 q
 · exact(mO.block b hb (fun q3=>q3 q2)).2 q
theorem oK {ub db:Nat}{rv hv lv fv tv:Value}(k:aD h eb 57 (La s rv hv lv fv tv ub db)) :
 af Tryz.prog 20 #[.pointer (some ⟨eb,0,none⟩)] h (bg fun r h'=>r= .bool false/\h'=h):=by
 refine af.of func20 rfl rfl ?_;refine ck func20 1 [0,2] rfl ?_;refine aB rfl ?_;refine G.fF [(2,.bool false)] [(0,_)] ⟨rfl,trivial⟩ func20 rfl ?_ ?_
 · refine eW 1 rfl rfl (ak.fZ underlying24 rfl rfl) ?_;refine dX 1 rfl ?_;refine RW.dO (d:=5) (b':=false) rfl (rfl) ?_;refine eW 2 rfl rfl (aa (off:=21) underlying57 rfl rfl H.Mu rfl) ?_;refine xp rfl (aq H.Li rfl (k.cell (i:=21) rfl)) ?_;refine xp rfl (ak.fZ underlying51 rfl rfl) ?_;refine dX 2 rfl ?_;refine RW.done rfl ?_;exact⟨rfl,au rfl (rfl),rfl,trivial⟩
 · refine cg func20 rfl rfl ?_;exact⟨_,rfl,rfl,rfl⟩
theorem CO {O':Nat->Prop}{v w:Value}{t:MS}(ks:eK O h v s) (kt:eK O' h w t) (c:Cm) (hf:c.kind=2->t.from_<=1000000) (hls:s.lines.length<=100000000) (hlt:t.lines.length<=100000000) :
 af Tryz.prog 23 #[v,w,HK c] h (bg fun r h'=>r= .int .i64 (iJ s t c)/\an h h'):=by
 obtain⟨xa,xn,xc,ya,yn,yc,za,zn,zc,ua,un,uc,rfl,hS⟩:=eK.get ks;obtain⟨xa',xn',xc',ya',yn',yc',za',zn',zc',ua',un',uc',rfl,hT⟩:=eK.get kt;have l1:=hS.lines.open_slice.len;have l2:=hT.lines.open_slice.len;subst l1;subst l2;unfold iJ;refine af.of func23 rfl rfl ?_;refine xr func23 rfl ?_;refine xo rfl (ay.kH rfl) ?_;rintro _ h1 ⟨rfl,k1,e1,z1⟩;refine xo rfl (ay.kH rfl) ?_;rintro _ h2 ⟨rfl,k2,e2,z2⟩;refine xo rfl (ay.kH rfl) ?_;rintro _ h3 ⟨rfl,k3,e3,z3⟩;have k1:aD h3 h.size 31 (s8 s (.slice xa xn xc) (.slice ya yn yc) (.slice za s.lines.length zc) (.slice ua un uc)):=(k1.aj e2).aj e3;have k2:aD h3 h1.size 31 (s8 t (.slice xa' xn' xc') (.slice ya' yn' yc') (.slice za' t.lines.length zc') (.slice ua' un' uc')):=k2.aj e3;have k3:aD h3 h2.size 28 (FQ c):=k3;refine cH 1 [0,1,2,3,4,5,6] rfl ?_;refine aB rfl ?_;refine G.block rfl rfl ?_;refine aB rfl ?_;refine G.fF [(7,.bool (decide (s.mode=4\/s.lines.length≠t.lines.length\/s.at_≠t.at_)))] [(0,_),(1,_),(2,_),(3,_),(4,_),(5,_),(6,_)] ⟨rfl,rfl,rfl,rfl,rfl,rfl,rfl,trivial⟩ func23 rfl ?_ ?_
 · refine xp rfl (aa (off:=2) underlying31 rfl rfl H.cq rfl) ?_;refine xp rfl (aq H.gV rfl (k1.cell (i:=2) rfl)) ?_;refine dX 2 rfl ?_;refine RW.split (d:=11) rfl (fun q1=>?_) (fun q1=>?_)
   · have q1:=of_decide_eq_true q1;refine dX 16 rfl ?_;refine RW.done rfl ?_;exact⟨rfl,au rfl (by simp[q1]),rfl,rfl,rfl,rfl,rfl,rfl,rfl,trivial⟩
   · have q1:=of_decide_eq_false q1;refine xp rfl (aa (off:=16) underlying31 rfl rfl H.nU rfl) ?_;refine xp rfl (aq H.Dl rfl (k1.cell (i:=16) rfl)) ?_;refine xp rfl (ak.cP underlying22 rfl) ?_;refine xp rfl (aa (off:=16) underlying31 rfl rfl H.nU rfl) ?_;refine xp rfl (aq H.Dl rfl (k2.cell (i:=16) rfl)) ?_;refine xp rfl (ak.cP underlying22 rfl) ?_;refine dX 3 rfl ?_;refine RW.split (d:=20) rfl (fun q2=>?_) (fun q2=>?_)
     · refine dX 7 rfl ?_;refine RW.done rfl ?_;exact⟨rfl,au rfl (by have q3:s.lines.length≠t.lines.length:=(by simp at q2;omega);simp[q3]),rfl,rfl,rfl,rfl,rfl,rfl,rfl,trivial⟩
     · refine xp rfl (aa (off:=6) underlying31 rfl rfl H.cq rfl) ?_;refine xp rfl (aq H.gV rfl (k1.cell (i:=6) rfl)) ?_;refine xp rfl (aa (off:=6) underlying31 rfl rfl H.cq rfl) ?_;refine xp rfl (aq H.gV rfl (k2.cell (i:=6) rfl)) ?_;refine dX 3 rfl ?_;refine RW.done rfl ?_;exact⟨rfl,au rfl (by have q3:s.lines.length=t.lines.length:=(by simp at q2;omega);simp[q1,q3]),rfl,rfl,rfl,rfl,rfl,rfl,rfl,trivial⟩
 · refine dz rfl rfl (fun q=>?_) (fun q=>?_)
   · refine ck func23 1 [0,1,2,3,4,5,6,7] rfl ?_;refine cg func23 rfl rfl ?_;exact⟨_,rfl,by rw[if_pos q];rfl,(e1.trans e2).trans e3⟩
   · rw[if_neg q];refine xr func23 rfl ?_;refine xp rfl (aa (off:=0) underlying28 rfl rfl H.cq rfl) ?_;refine xp rfl (aq H.gV rfl (k3.cell (i:=0) rfl)) ?_;refine cH 2 [0,1,2,3,4,5,6,7,27] rfl ?_;refine dz rfl rfl (fun q2=>?_) (fun q2=>?_)
     · have hf:=hf q2;rw[if_pos q2];refine xr func23 rfl ?_;refine xp rfl (aa (off:=9) underlying31 rfl rfl H.cq rfl) ?_;refine xp rfl (aq H.gV rfl (k2.cell (i:=9) rfl)) ?_;refine xp rfl (ak.max2 rfl rfl) ?_;refine xp rfl (ak.cY rfl rfl ⟨by omega,by omega⟩) ?_;refine cH 1 [0,1,2,3,4,5,6,7,27] rfl ?_;refine cg func23 rfl rfl ?_;exact⟨_,rfl,by show Value.int .i64 (1+if t.from_<0 then 0 else t.from_)=_;congr 1;split<;>omega,(e1.trans e2).trans e3⟩
     · rw[if_neg q2];refine aM rfl ?_;refine G.cn ?_;refine ck func23 1 [0,1,2,3,4,5,6,7,27] rfl ?_;refine cg func23 rfl rfl ?_;exact⟨_,rfl,rfl,(e1.trans e2).trans e3⟩
abbrev Ra (O:Nat->Prop) (h g:ai) (b:Nat) (t:MS):Prop:=∃xa xn xc ya yn yc za zn zc ua un uc,Fs O h g b t (.slice xa xn xc) (.slice ya yn yc) (.slice za zn zc) (.slice ua un uc)
theorem eK.Ov {v:Value}(k:eK O h v s) (e:an h h') (hb:h.size<=b):eK (fun y=>y=b\/O y) h' v s:=by
 obtain⟨rv,hv,lv,fv,rfl,hS⟩:=k;exact⟨rv,hv,lv,fv,rfl,hS.mv (Mv.cE e fun y hy q=>⟨fun k=>k,by rintro(rfl|k);omega;exact q k⟩)⟩
theorem Fs.OF {g g':ai}{t:MS}{rv hv lv fv:Value}(k:aD g' b 31 (s8 t rv hv lv fv)) (e:an h g) (x:Ext (fun y=>y=b) g g') (hb:h.size<=b) (hO:∀y,O y->y<h.size) (hT:vC (fun y=>y=b\/O y) g t rv hv lv fv):Fs O h g' b t rv hv lv fv :=
 ⟨k,an.only e x hb,hb,hO,hT.mv (Mv.cE x fun y hy q=>⟨fun k=>q (.inl k),q⟩)⟩
theorem yj {B:Nat}(k:MI B s){c:Cm}(hk:gX c):cT B s (b8 s c)/\mw (b8 s c):=by
 unfold gX at hk;unfold b8;rw[if_neg (by omega)];have h1:=KI k c;generalize r6 (fixC s) c=t at h1;unfold CV;split
 · refine⟨⟨h1.inv.cur _,h1.bell,h1.lin⟩,_,rfl,?_⟩
   show mq t.text (lJ t.text _ 0 1)
   rw[kM];exact FE (mS _ _)
 · exact⟨⟨h1.inv.cur _,h1.bell,h1.lin⟩,_,rfl,mS _ _⟩
theorem EY {c:Cm}(hk:gX c) (hm:s.mode≠4):(b8 s c).mode=(mc (fixC s) c).mode:=by
 unfold gX at hk;unfold b8;rw[if_neg (by omega),show r6 (fixC s) c=mc (fixC s) c from if_neg hm];unfold CV;split<;>rfl
section
variable {Z:Nat->Prop}{base:Nat}{g g':ai}{eb db ub:Nat}{wv gv tv rv hv lv fv:Value}{n:Int}{t:MS}{u:yH}
theorem s5 (k:aD g' eb 57 (La t rv hv lv fv tv ub db)) (x:Ext (fun y=>y=eb) g g') (keb:bC g eb 57) (kt:BG Z g tv t.text) (un:gi Z g ub wv gv u) (kd:gw (sJ Z eb db ub wv gv) g db t.text n) (hT:vC (sJ Z eb db ub wv gv) g t rv hv lv fv) (low:∀y,sJ Ck eb db ub wv gv y->base<=y) (zt:∀y,Z y->bC g y 9) :
 rB Z base g' eb db ub wv gv tv rv hv lv fv n t u:=by
 have kub:bC g ub 88:=by obtain⟨_,kk,_⟩:=un.blk;exact kk.ty
 have kdb:bC g db 94:=by obtain⟨_,_,_,_,_,_,_,_,_,kk,_⟩:=id kd;exact kk.ty
 have hM:∀b,b=eb->Ot Z g b:=fun b e=>by subst e;exact dR keb (by decide) (by decide)
 exact⟨k,kt.mv (je x hM),un.ext' x (fun q=>kub.ne keb (by decide) q) (fun b q e=>(un.zj b q).ne keb (by decide) e) (fun b q e=>(un.CN b q).ne keb (by decide) e) hM,kd.others x (fun y q=>⟨.inl q,fun q2=>kdb.ne keb (by decide) (q2.symm.trans q)⟩) (fun y q=>.inl q),hT.mv (Mv.cE x fun y _ q=>⟨fun q2=>q (.inl q2),q⟩),low,fun y q=>(zt y q).ext x (fun q2=>(zt y q).ne keb (by decide) q2)⟩
end
theorem Ac {Z:Nat->Prop}{base:Nat}{e:iP}(k:eC Z base h eb e){B:Nat}(hI:MI B e.s) (hB:B<=5000000) (c:Cm) (hct:c.text.length<=100000) (hk:gX c) (hm:e.s.mode=0) (hm':(b8 e.s c).mode=0) (hw:e.u.were.length<100) (hf:c.kind=2->(b8 e.s c).from_<=1000000) (hg:0<=iJ e.s (b8 e.s c) c) :
 af Tryz.prog 7 #[.pointer (some ⟨eb,0,none⟩),HK c] h (bg fun _ h'=>eC Z base h' eb (fO e c)/\Ext (nP base h) h h'):=by
 obtain⟨db,ub,wv,gv,tv,rv,hv,lv,fv,n,k⟩:=k;obtain⟨s,u⟩:=e;dsimp only at k hI hm hm' hw hf hg;obtain⟨xa,xn,xc,rfl,_⟩:=k.ms.ring.open;obtain⟨ya,yn,yc,rfl,_⟩:=k.ms.hist.open;obtain⟨za,zn,zc,rfl,_⟩:=k.ms.lines.open;obtain⟨ua,un,uc,rfl,_⟩:=k.ms.flags.open;have hA:=(yj hI hk).1;have hm2:(mc (fixC s) c).mode≠2:=by rw[<-EY hk (by omega),hm'];decide
 have hdo:fO ⟨s,u⟩ c=⟨b8 s c,if (b8 s c).text≠s.text then lH u (b8 s c).text (b8 s c).cur (iJ s (b8 s c) c) else u⟩:=by
  unfold fO;dsimp only;rw[if_neg (by omega)]
 have hki:=hk;unfold gX at hki;obtain⟨T,hTT⟩:∃T,b8 s c=T:=⟨_,rfl⟩
 obtain⟨gr,hgr⟩:∃gr,iJ s T c=gr:=⟨_,rfl⟩
 rw[hTT] at hA hm' hf hg hdo
 rw[hgr] at hg hdo
 have htx:=hI.text;have htT:=hA.inv.text;have hgl:=hI.linesn;have hgT:=hA.inv.linesn;refine af.of func7 rfl rfl ?_;refine xr func7 rfl ?_;refine xo rfl (ay.kH rfl) ?_;rintro _ h1 ⟨rfl,k1,e1,z1⟩;have k1:aD h1 h.size 28 (FQ c):=k1;have K:=k.aj e1;have hebl:=k.blk.lt;refine xd [0,1,3] rfl ?_;refine aB rfl ?_;refine G.block rfl rfl ?_;refine dY func7 1 rfl ?_;refine xo rfl (ay.call (vs:=[_]) func20 rfl H.IT rfl (af.cD (oK K.blk))) ?_;rintro _ h2 ⟨rfl,hh2⟩;refine cH 1 [0,1,3,13] rfl ?_;subst hh2;refine aA rfl rfl (fun hc=>absurd hc (by decide)) (fun _=>?_);refine aB rfl ?_;refine G.fF [(16,.bool true)] [(0,_),(1,_),(3,_),(13,_)] ⟨rfl,rfl,rfl,rfl,trivial⟩ func7 rfl ?_ ?_
 · refine xp rfl (aa (off:=0) underlying28 rfl rfl H.cq rfl) ?_;refine xp rfl (aq H.gV rfl (k1.cell (i:=0) rfl)) ?_;refine dX 2 rfl ?_;refine RW.dO (d:=20) (b':=true) rfl (decide_eq_true (by omega)) ?_;refine xp rfl (aa (off:=0) underlying28 rfl rfl H.cq rfl) ?_;refine xp rfl (aq H.gV rfl (k1.cell (i:=0) rfl)) ?_;refine dX 3 rfl ?_;refine RW.done rfl ?_;exact⟨rfl,au rfl (by simp;omega),rfl,rfl,rfl,rfl,trivial⟩
 · refine aA rfl rfl (fun _=>?_) (fun hc=>absurd hc (by decide));have happ:=fun {Q:Nat->Prop}{g:ai}{w:Value}(e:an h2 g) (kw:eK Q g w s) (hQ:∀y,Q y->y<g.size)=>BE (K.lx.aj e) kw hQ hI (by omega) c (by omega) hk (by omega) hm2
   rw[hTT] at happ;have hMe:¬Array.size h2<=eb:=by omega
   have hM1:¬Array.size h2<=h.size:=by omega
   refine aM rfl ?_;refine G.cn ?_;refine aB rfl ?_;refine G.sK (fun(b5:Nat) (h':ai)=>Ra (sJ Z eb db ub wv gv) h2 h' b5 T) (fun(b5:Nat)=>[(4,.pointer (some ⟨b5,0,none⟩))]) [(0,_),(1,_),(3,_),(13,_),(16,_)] ⟨rfl,rfl,rfl,rfl,rfl,trivial⟩ (fun b=>Array.size h2<=b) (fun i=>Nat.blt i 7) (sz:=8) (listed:= #[false,false,false,false,false,false,false,false]) func7 H.mixed rfl rfl rfl ?_ ?_
   · refine aO 0 1 (by kernel_rfl) rfl ?_;refine aO 1 3 (by kernel_rfl) rfl ?_;refine b9 2 7 (by kernel_rfl) rfl (fun h' e=>aa (off:=0) underlying57 rfl rfl H.cv rfl) ?_;refine b9 3 15 (by kernel_rfl) rfl (fun h' e=>ak.aF H.jE H.cv rfl (e.rowAt hMe (jG K.blk.row)) (by first|rfl|(simp;done)|(simp;omega))) ?_;refine b9 4 31 (by kernel_rfl) rfl (fun h' e=>ak.aF H.Dk H.yN rfl (e.rowAt hM1 k1.row) (by first|rfl|(simp;done)|(simp;omega))) ?_;refine RD.yL 5 6 (li:= #[true,true,true,true,true,true,false,false]) (lj:= #[true,true,true,true,true,false,true,false]) rfl rfl (by kernel_rfl) rfl rfl rfl rfl rfl rfl (ay.call (vs:=[_,_]) func22 rfl H.Ol rfl (af.cD (happ (Ext.refl _ _) K.uq K.lt))) (ay.cS H.BJ) (by kernel_rfl) (by kernel_rfl) ?_ ?_
     · rintro v5 g5 ⟨kv5,e5⟩;refine⟨fun _=>e5.of,?_⟩;refine kf 6 127 (by kernel_rfl) rfl (ay.cS H.BJ) ?_;rintro _ g6 ⟨rfl,kb,e6,z6⟩;refine⟨fun _=>e6.of,?_⟩;have kw6:=kv5.Ov e6 (Nat.le_refl _);obtain⟨_,_,_,_,_,_,_,_,_,_,_,_,rfl,hT⟩:=eK.get kw6;refine rD 7 255 (by kernel_rfl) rfl (ay.aG H.cv rfl rfl kb (by first|rfl|(simp;done)|(simp;omega)) (by first|decide|exact of_decide_eq_true rfl|(simp;done)|(simp;omega)) (ms1)) ?_;rintro _ g8 ⟨rfl,k8,x8,z8⟩;refine⟨fun hk=>(nomatch hk),?_⟩;refine RD.done (by kernel_rfl) ?_;exact⟨g5.size,⟨_,_,_,_,_,_,_,_,_,_,_,_,Fs.OF k8 (e5.trans e6) x8 e5.size K.lt hT⟩,rfl,rfl,rfl,rfl,rfl,rfl,trivial⟩
     · rintro _ g5 ⟨rfl,kb,e5,z5⟩;refine⟨fun _=>e5.of,?_⟩;refine kf 5 127 (by kernel_rfl) rfl (ay.call (vs:=[_,_]) func22 rfl H.Ol rfl (af.cD (happ e5 (K.uq.Ov e5 (Nat.le_refl _)) (fun y hy=>by rcases hy with rfl|hy;(have:=kb.lt;exact this);(have:=K.lt y hy;omega))))) ?_;rintro v6 g6 ⟨kw6,e6⟩;refine⟨fun _=>e6.of,?_⟩;obtain⟨_,_,_,_,_,_,_,_,_,_,_,_,rfl,hT⟩:=eK.get kw6;refine rD 7 255 (by kernel_rfl) rfl (ay.aG H.cv rfl rfl (kb.aj e6) (by first|rfl|(simp;done)|(simp;omega)) (by first|decide|exact of_decide_eq_true rfl|(simp;done)|(simp;omega)) (ms1)) ?_;rintro _ g8 ⟨rfl,k8,x8,z8⟩;refine⟨fun hk=>(nomatch hk),?_⟩;refine RD.done (by kernel_rfl) ?_;exact⟨h2.size,⟨_,_,_,_,_,_,_,_,_,_,_,_,Fs.OF k8 (e5.trans e6) x8 (Nat.le_refl _) K.lt hT⟩,rfl,rfl,rfl,rfl,rfl,rfl,trivial⟩
   · rintro b5 h5 ⟨va,vn,vc,wa,wn,wc,pa,pn,pc,qa,qn,qc,Y⟩;have K5:=K.aj Y.ext;have hb5:=Y.hb;have k15:=k1.aj Y.ext;have hz5:=Y.ext.size;have hb5l:=Y.blk.lt;have hgc:=CO K5.uq Y.uq c hf (by omega) (by omega);rw[hgr] at hgc;have hMe5:¬Array.size h5<=eb:=by omega
     have hM15:¬Array.size h5<=h.size:=by omega
     have hMb5:¬Array.size h5<=b5:=by omega
     refine aB rfl ?_;refine cG (fun b=>Array.size h5<=b) (fun i=>Nat.blt i 8) (sz:=8) (listed:= #[false,false,false,false,false,false,false,false]) func7 H.mixed rfl rfl rfl ?_;refine aO 0 1 (by kernel_rfl) rfl ?_;refine aO 1 3 (by kernel_rfl) rfl ?_;refine b9 2 7 (by kernel_rfl) rfl (fun h' e=>aa (off:=0) underlying57 rfl rfl H.cv rfl) ?_;refine b9 3 15 (by kernel_rfl) rfl (fun h' e=>ak.aF H.jE H.cv rfl (e.rowAt hMe5 (jG K5.blk.row)) (by first|rfl|(simp;done)|(simp;omega))) ?_;refine b9 4 31 (by kernel_rfl) rfl (fun h' e=>ak.aF H.jE H.cv rfl (e.rowAt hMb5 Y.blk.row) (by first|rfl|(simp;done)|(simp;omega))) ?_;refine b9 5 63 (by kernel_rfl) rfl (fun h' e=>ak.aF H.Dk H.yN rfl (e.rowAt hM15 k15.row) (by first|rfl|(simp;done)|(simp;omega))) ?_;refine kf 6 127 (by kernel_rfl) rfl (ay.call (vs:=[_,_,_]) func23 rfl H.P3 rfl (af.cD (hgc))) ?_;rintro _ h6 ⟨rfl,e6⟩;refine⟨fun _=>e6.of,?_⟩;have K6:=K5.aj e6;have Y6:=Y.aj e6;have kb6:aD h6 eb 57 (s8 s (.slice xa xn xc) (.slice ya yn yc) (.slice za zn zc) (.slice ua un uc)++[tv,.pointer (some ⟨ub,0,none⟩),.pointer (some ⟨db,0,none⟩),.int .i64 0,.bool false,.int .i64 0,.int .i32 0]):=K6.blk;have x06:Ext (nP base h) h h6:=an.of ((e1.trans Y.ext).trans e6);refine aO 7 255 (by kernel_rfl) rfl ?_;refine RD.done (by kernel_rfl) ?_;refine xu [0,1,3,4,5,13,16] rfl ?_;refine aB rfl ?_;refine aB rfl ?_;refine G.CY func7 H.mixed rfl (by kernel_rfl) ?_;refine RQ.aC rfl rfl rfl rfl (aa (off:=0) underlying31 rfl rfl H.kF rfl) ?_;refine RQ.aC rfl rfl rfl rfl (aq H.rm rfl (Y6.blk.cell (i:=0) rfl)) ?_;refine RQ.aC rfl rfl rfl rfl (aR rfl) ?_;refine RQ.aC rfl rfl rfl rfl (cJ rfl) ?_;refine RQ.aC rfl rfl rfl rfl (aa (off:=0) underlying57 rfl rfl H.cv rfl) ?_;refine RQ.aC rfl rfl rfl rfl (aa (off:=0) underlying31 rfl rfl H.kF rfl) ?_;refine RQ.aC rfl rfl rfl rfl (aq H.rm rfl (kb6.cell (i:=0) rfl)) ?_;refine RQ.aC rfl rfl rfl rfl (ak.wD rfl rfl) ?_;refine RQ.done rfl ?_;refine xu [0,1,3,4,5,13,16,65] rfl ?_;refine dz rfl rfl (fun hne=>?_) (fun hne=>?_)
     · have hne':T.text≠s.text:=fun q=>hne (by rw[q])
       rw[hdo,if_pos hne'];have hch:=nj kb6 K6.txt K6.doc T.text htx htT K6.lt (.inl rfl) (fun q=>K6.Bn.ne K6.blk.ty (by decide) q.symm) (fun y q=>(K6.zt y q).lt);refine dY func7 1 rfl ?_;refine xp rfl (aa (off:=0) underlying31 rfl rfl H.kF rfl) ?_;refine xp rfl (aq H.rm rfl (Y6.blk.cell (i:=0) rfl)) ?_;refine xo rfl (ay.call (vs:=[_,_]) func24 rfl H.MO rfl (af.cD (hch))) ?_;rintro _ h7 ⟨⟨tv',kb7,kt7,m,kd7⟩,x7⟩;refine xd [0,1,3,4,5,13,16,65] rfl ?_;refine ck func7 2 [0,1,3,4,5,13,16,65,71] rfl ?_;refine aA rfl rfl (fun _=>?_) (fun hc=>absurd hc (by simp;omega));have hb6:b5≠eb/\b5≠db:=⟨by omega,fun q=>by have:=(k.Bn).lt;omega⟩
       have un7:=K6.un.ext' x7 (fun q=>q.elim (fun q=>K6.LF.ne K6.blk.ty (by decide) q) (fun q=>K6.LF.ne K6.Bn (by decide) q)) (fun b q q2=>q2.elim (fun q2=>(K6.un.zj b q).ne K6.blk.ty (by decide) q2) (fun q2=>(K6.un.zj b q).ne K6.Bn (by decide) q2)) (fun b q q2=>q2.elim (fun q2=>(K6.un.CN b q).ne K6.blk.ty (by decide) q2) (fun q2=>(K6.un.CN b q).ne K6.Bn (by decide) q2)) (fun b q=>q.elim (fun q=>q▸dR K6.blk.ty (by decide) (by decide)) (fun q=>q▸dR K6.Bn (by decide) (by decide)));have kb57:=Y6.blk.ext x7 (fun q=>q.elim hb6.1 hb6.2);have hz6:=e6.size;have hz7:=x7.size
       have hxu:¬rC ub wv gv eb:=fun q=>by
        rcases q with q|q|q
        · exact K6.LF.ne K6.blk.ty (by decide) q.symm
        · exact(K6.un.zj _ q).ne K6.blk.ty (by decide) rfl
        · exact(K6.un.CN _ q).ne K6.blk.ty (by decide) rfl
       have hxb:¬rC ub wv gv b5:=fun q=>by have:=(k.ty b5 (.inr (.inr (.inl q)))).lt;omega
       refine cG (rC ub wv gv) (fun i=>Nat.blt i 12) (sz:=12) (listed:= #[false,false,false,false,false,false,false,false,false,false,false,false]) func7 H.mixed rfl rfl rfl ?_;refine aO 0 1 (by kernel_rfl) rfl ?_;refine aO 1 3 (by kernel_rfl) rfl ?_;refine b9 2 7 (by kernel_rfl) rfl (fun h' e=>aa (off:=20) underlying57 rfl rfl H.Mw rfl) ?_;refine b9 3 15 (by kernel_rfl) rfl (fun h' e=>aq H.Nl rfl (e.cell hxu (kb7.cell (i:=20) rfl))) ?_;refine aO 4 31 (by kernel_rfl) rfl ?_;refine aO 5 63 (by kernel_rfl) rfl ?_;refine b9 6 127 (by kernel_rfl) rfl (fun h' e=>aa (off:=19) underlying57 rfl rfl H.vL rfl) ?_;refine b9 7 255 (by kernel_rfl) rfl (fun h' e=>aq H.JY rfl (e.cell hxu (kb7.cell (i:=19) rfl))) ?_;refine b9 8 511 (by kernel_rfl) rfl (fun h' e=>aa (off:=1) underlying31 rfl rfl H.cq rfl) ?_;refine b9 9 1023 (by kernel_rfl) rfl (fun h' e=>aq H.gV rfl (e.cell hxb (kb57.cell (i:=1) rfl))) ?_;refine aO 10 2047 (by kernel_rfl) rfl ?_;refine kf 11 4095 (by kernel_rfl) rfl (ay.call (vs:=[_,_,_,_]) func25 rfl H.P2 rfl (af.cD (yJ un7 kt7 T.cur gr hw))) ?_;rintro _ h8 ⟨rfl,⟨wv',gv',un8,hun⟩,x8⟩;refine⟨fun _=>x8,?_⟩;have hz8:=x8.size;have kb8:=kb7.ext x8 hxu;have kb58:=kb57.ext x8 hxb;refine RD.done (by kernel_rfl) ?_;refine xu [0,1,3,4,5,13,16,65,71] rfl ?_;refine aB rfl ?_;refine ck func7 2 [0,1,3,4,5,13,16,65,71,85] rfl ?_;refine aA rfl rfl (fun hc=>absurd hc (by simp;omega)) (fun _=>?_);refine aM rfl ?_;refine G.eE func7 rfl ?_;refine eW 1 rfl rfl (ak.aF H.jE H.cv rfl kb58.row (by first|rfl|(simp;done)|(simp;omega))) ?_;refine eW 1 rfl rfl (aa (off:=0) underlying57 rfl rfl H.cv rfl) ?_;refine RW.gq rfl rfl rfl (ay.aG H.cv rfl rfl kb8 (by first|rfl|(simp;done)|(simp;omega)) (by first|decide|exact of_decide_eq_true rfl|(simp;done)|(simp;omega)) (ms1)) ?_;rintro _ h9 ⟨rfl,k9,x9,z9⟩;refine xd [0,1,3,4,5,13,16,65,71,85] rfl ?_;refine G.G7 func7 rfl ?_
       have hmk:∀y,sJ Z eb db ub wv' gv' y->sJ Z eb db ub wv gv y\/h7.size<=y:=fun y q=>by
        rcases q with q|q|q|q
        · exact .inl (.inl q)
        · exact .inl (.inr (.inl q))
        · exact(hun y q).imp (fun q=>.inr (.inr (.inl q))) (fun q=>q)
        · exact .inl (.inr (.inr (.inr q)))
       have hnz:∀y,Z y->¬sJ Ck eb db ub wv gv y:=fun y q q2=>(k.ty y q2).ns (k.zt y q) rfl
       have kd8:=kd7.others x8 (fun y q=>⟨.inr (.inr (.inl q)),fun q2=>by
        subst q2
        rcases q with q|q|q
        · exact K6.LF.ne K6.Bn (by decide) q.symm
        · exact(K6.un.zj _ q).ne K6.Bn (by decide) rfl
        · exact(K6.un.CN _ q).ne K6.Bn (by decide) rfl⟩) hmk
       have kt8:=kt7.mv (je (Z:=Z) x8 (fun y q=>by
        rcases q with q|q|q
        · obtain⟨_,kk,_⟩:=un7.blk;exact q▸dR kk.ty (by decide) (by decide)
        · exact dR (un7.zj y q) (by decide) (by decide)
        · exact dR (un7.CN y q) (by decide) (by decide)))
       have hT8:vC (sJ Z eb db ub wv' gv') h8 T (.slice va vn vc) (.slice wa wn wc) (.slice pa pn pc) (.slice qa qn qc):=(Y6.weak.mv (O':=sJ Z eb db ub wv gv) (Mv.cE x7 fun y hy q=>⟨fun q2=>q2.elim (fun q2=>q (.inl q2)) (fun q2=>q (.inr (.inl q2))),q⟩)).mv (Mv.cE x8 fun y hy q=>⟨fun q2=>q (.inr (.inr (.inl q2))),fun q2=>by
        rcases hmk y q2 with q2|q2
        · exact q q2
        · omega⟩)
       refine⟨_,rfl,⟨db,ub,wv',gv',tv',_,_,_,_,m,s5 k9 x9 kb8.ty kt8 un8 kd8 hT8 (fun y q=>?_) (fun y q=>((K6.zt y q).ext x7 (fun q2=>hnz y q (q2.imp (fun q=>q) (fun q=>.inl q)))).ext x8 (fun q2=>hnz y q (.inr (.inr (.inl q2)))))⟩,?_⟩
       · have hbe:=k.low eb (.inl rfl)
         rcases q with q|q|q|q
         · exact k.low y (.inl q)
         · exact k.low y (.inr (.inl q))
         · rcases hun y q with q|q
           · exact k.low y (.inr (.inr (.inl q)))
           · omega
         · exact q.elim
       · have hin:∀y,sJ Ck eb db ub wv gv y->nP base h y:=k.ty;exact((x06.trans (x7.mono fun y _ q=>hin y (q.imp (fun q=>q) (fun q=>.inl q)))).trans (x8.mono fun y _ q=>hin y (.inr (.inr (.inl q))))).trans (x9.mono fun y _ q=>hin y (.inl q))
     · have hne':T.text=s.text:=ie (by simpa using hne);rw[hdo,if_neg (fun q=>q hne')];refine aM rfl ?_;refine aB rfl ?_;refine ck func7 2 [0,1,3,4,5,13,16,65,85] rfl ?_;refine aA rfl rfl (fun hc=>absurd hc (by simp;omega)) (fun _=>?_);refine aM rfl ?_;refine G.eE func7 rfl ?_;refine eW 1 rfl rfl (ak.aF H.jE H.cv rfl Y6.blk.row (by first|rfl|(simp;done)|(simp;omega))) ?_;refine eW 1 rfl rfl (aa (off:=0) underlying57 rfl rfl H.cv rfl) ?_;refine RW.gq rfl rfl rfl (ay.aG H.cv rfl rfl kb6 (by first|rfl|(simp;done)|(simp;omega)) (by first|decide|exact of_decide_eq_true rfl|(simp;done)|(simp;omega)) (ms1)) ?_;rintro _ h9 ⟨rfl,k9,x9,z9⟩;refine xd [0,1,3,4,5,13,16,65,85] rfl ?_;refine G.G7 func7 rfl ?_;exact⟨_,rfl,⟨db,ub,wv,gv,tv,_,_,_,_,n,s5 k9 x9 kb6.ty (hne'▸K6.txt) K6.un (hne'▸K6.doc) Y6.weak k.low K6.zt⟩,x06.trans (x9.mono fun y _ q=>k.ty y (.inl q))⟩
end
end Go.Proofs.YtpjgdgdnbkjoiaaGreatDoor
namespace Go.Proofs.YtpjgdgdnbkjoiaaGreatDoor
open Go
section
variable {B n:Nat}{e:iP}
structure nG (B:Nat) (e:iP):Prop where
  inv:MI B e.s
  mode:e.s.mode=0
  now:e.u.t.length<=16384
  were:∀x∈e.u.were,x.1.length<=16384
  gone:∀x∈e.u.gone,x.1.length<=16384
  cnt:e.u.were.length+e.u.gone.length<=100
theorem nG.up {B C:Nat}{e:iP}(k:nG B e) (h:B<=C):nG C e:= { k with inv:=k.inv.up h }
theorem FC {s:MS}(k:MI B s):MI (B+1) { s with bells:=s.bells+1 } :=
  { k.up (show B<=B+1 by omega) with
    bell0:=by have:=k.bell0;show 0<=s.bells+1;omega
    bell1:=by have:=k.bell1;show s.bells+1<=((B+1:Nat):Int);omega }
theorem FB {s:MS}(k:MI B s){t:By}(ht:t.length<=16384) (c:Int):MI (B+1) { s with text:=t,cur:=c } :=
  { k.up (show B<=B+1 by omega) with text:=ht }
theorem nG.back (k:nG B e) (r:Bool):nG (B+1) (cF e r).1:=by
  cases r
  · unfold cF lg;rw[if_neg (by decide)]
    rcases hw:e.u.were.getLast? with _|x
    · exact⟨FC k.inv,k.mode,k.now,k.were,k.gone,k.cnt⟩
    · obtain⟨ys,hy⟩:=List.getLast?_eq_some_iff.1 hw;have hx:=k.were x (by rw[hy];simp);have hc:=k.cnt;rw[hy,List.length_append] at hc;dsimp only;rw[iT (by exact k.mode)];refine⟨FB k.inv hx _,k.mode,hx,fun y q=>k.were y (List.dropLast_subset _ q),fun y q=>?_,?_⟩
      · rcases List.mem_append.1 q with q|q
        · exact k.gone y q
        · rw[List.mem_singleton] at q;subst q;exact k.now
      · show e.u.were.dropLast.length+(e.u.gone++[_]).length<=100
        rw[hy,List.dropLast_concat,List.length_append];simp at hc ⊢;omega
  · unfold cF gx;rw[if_pos rfl]
    rcases hw:e.u.gone.getLast? with _|x
    · exact⟨FC k.inv,k.mode,k.now,k.were,k.gone,k.cnt⟩
    · obtain⟨ys,hy⟩:=List.getLast?_eq_some_iff.1 hw;have hx:=k.gone x (by rw[hy];simp);have hc:=k.cnt;rw[hy,List.length_append] at hc;dsimp only;rw[iT (by exact k.mode)];refine⟨FB k.inv hx _,k.mode,hx,fun y q=>?_,fun y q=>k.gone y (List.dropLast_subset _ q),?_⟩
      · rcases List.mem_append.1 q with q|q
        · exact k.were y q
        · rw[List.mem_singleton] at q;subst q;exact k.now
      · show (e.u.were++[_]).length+e.u.gone.dropLast.length<=100
        rw[hy,List.dropLast_concat,List.length_append];simp at hc ⊢;omega
def B0 (e:iP):iP:=⟨{ e.s with last:=0,mark:= -1,mode:=if e.s.mode=3 then 2 else e.s.mode },e.u⟩
theorem nG.set (k:nG B e):nG B (B0 e) :=
  ⟨{ k.inv with },by show (if e.s.mode=3 then (2:Int) else e.s.mode)=0;rw[k.mode];decide,k.now,k.were,k.gone,k.cnt⟩
theorem Kt (k:nG B e){t:By}(c g:Int):(∀x∈(lH e.u t c g).were,x.1.length<=16384)/\(lH e.u t c g).were.length<=100:=by
  have hc:=k.cnt;unfold lH;dsimp only;split
  · refine⟨fun x q=>?_,by rw[List.length_drop,List.length_append];simp;omega⟩
    rcases List.mem_append.1 (List.mem_of_mem_drop q) with q|q
    · exact k.were x q
    · rw[List.mem_singleton] at q;subst q;exact k.now
  · exact⟨k.were,by omega⟩
theorem xS (e:iP) (r:Bool) (n:Int):fK e r n=dP (min (max n 0) 100).toNat (B0 e) r:=rfl
theorem Df {r:Bool}(h:(cF e r).2=true):dP (n+1) e r=dP n (cF e r).1 r:=by rw[dP,if_pos h]
theorem EV {r:Bool}(h:(cF e r).2=false):dP (n+1) e r=(cF e r).1:=by rw[dP,if_neg (by rw[h];decide)]
def Dx (e:iP) (c:Cm):Prop:=e.s.mode=0/\(b8 e.s c).mode=0/\e.u.were.length<100/\(c.kind=2->(b8 e.s c).from_<=1000000)/\0<=iJ e.s (b8 e.s c) c
theorem Iv {H:List (By×Int)}{was:List By}(k:Km n H e was) (hn:n<30){x:By}(h0:x≠[]) (hx:x.length<=100) (ha:pg x) :
    Dx e ve/\Dx (fO e ve) JK/\Dx (fO (fO e ve) JK) (EN x)/\Dx (fO (fO (fO e ve) JK) (EN x)) Bw:=by
  obtain⟨s,u⟩:=e;obtain⟨kr,klen,ktm,khl,ko,dO,kwas,kat⟩:=k;dsimp only at kr klen ktm ko dO;have e1:fO ⟨s,u⟩ ve=⟨{ s with cur:=0,last:=0 },u⟩:=pQ (As kr) rfl kr.mode rfl rfl (by decide);have kr1:Mj { s with cur:=0,last:=0 }:=⟨kr.mode,kr.hist,kr.at_,kr.bells,kr.jd⟩
  have e2:fO ⟨{ s with cur:=0,last:=0 },u⟩ JK=⟨{ s with cur:=0,last:=0,mark:= -1 },u⟩:=pQ (FL kr1 rfl) rfl kr.mode rfl rfl (by decide);have kr2:Mj { s with cur:=0,last:=0,mark:= -1 }:=⟨kr.mode,kr.hist,kr.at_,kr.bells,kr.jd⟩
  have hx1:0<x.length:=List.length_pos_iff.2 h0;have i3:=Jh kr2 rfl rfl h0 hx ha (show s.text.length<=10000 by omega)
  have e3:=tP (e:=⟨{ s with cur:=0,last:=0,mark:= -1 },u⟩) i3 (fun q=>by
    have:=congrArg List.length (show x++s.text=s.text from q);rw[List.length_append] at this;omega) (tL kr.mode rfl rfl rfl rfl) (by decide)
  have t3:Tm (H++[(x++s.text,((x.length:Nat):Int))]) (2*n+1) (lH u (x++s.text) (x.length:Nat) 1):=ktm.push (by omega) (by omega) (.inr (by rw[ko];decide)) _ _;have hc:((x.length:Nat):Int)=((x.length-1+1:Nat):Int):=by omega
  have d4:=JC (s:= { s with cur:=(x.length:Nat),text:=x++s.text,last:=1,mark:= -1,from_:=0,to_:=(x.length:Nat) }) kr.mode (ha.app kr.jd) (n:=x.length-1) hc (by dsimp only;rw[List.length_append];omega);have hw0:u.were.length<100:=by rw[ktm.were,List.length_take];omega
  have hw3:(lH u (x++s.text) (x.length:Nat) 1).were.length<100:=by rw[t3.were,List.length_take];omega
  rw[e1,e2,e3];refine⟨⟨kr.mode,?_,hw0,fun q=>absurd q (by decide),?_⟩,⟨kr.mode,?_,hw0,fun q=>absurd q (by decide),?_⟩,⟨kr.mode,?_,hw0,fun _=>?_,?_⟩,⟨kr.mode,?_,hw3,fun q=>absurd q (by decide),?_⟩⟩<;>dsimp only
  · rw[As kr];exact kr.mode
  · rw[As kr];exact Int.le_of_eq (jU (c:=ve) kr.mode rfl rfl (by decide)).symm
  · rw[FL kr1 rfl];exact kr.mode
  · rw[FL kr1 rfl];exact Int.le_of_eq (jU (c:=JK) kr.mode rfl rfl (by decide)).symm
  · rw[i3];exact kr.mode
  · rw[i3];show (0:Int)<=1000000;decide
  · rw[i3];refine Int.le_trans (by decide:(0:Int)<=1) (Int.le_of_eq ?_);symm;exact tL kr.mode rfl rfl rfl rfl
  · rw[d4];exact kr.mode
  · rw[d4];exact Int.le_of_eq (jU (c:=Bw) kr.mode rfl rfl (by decide)).symm
end
end Go.Proofs.YtpjgdgdnbkjoiaaGreatDoor
namespace Go.Proofs.YtpjgdgdnbkjoiaaGreatDoor
open Go.Proofs.Tryz
open Go Go.Lw
set_option maxRecDepth 20000
section
variable {B base eb:Nat}{e:iP}{c:Cm}{Z:Nat->Prop}{h g:ai}{s:By}
theorem nG.do (k:nG B e) (hk:gX c) (hm:(b8 e.s c).mode=0):nG (B+20000) (fO e c):=by
 have hA:=(yj k.inv hk).1;obtain⟨h1,h2⟩:=Kt k (t:=(b8 e.s c).text) (b8 e.s c).cur (iJ e.s (b8 e.s c) c);unfold fO;dsimp only;refine⟨hA.inv,hm,?_,?_,?_,?_⟩<;>dsimp only<;>split
 · exact hA.inv.text
 · split
   · exact hA.inv.text
   · exact k.now
 · intro x q;cases q
 · split
   · exact h1
   · exact k.were
 · intro x q;cases q
 · split
   · intro x q;cases q
   · exact k.gone
 · exact Nat.zero_le _
 · split
   · exact h2
   · exact k.cnt
section
variable {Z:Nat->Prop}{base:Nat}{h h':ai}{eb db ub:Nat}{wv gv wv' gv' tv rv hv lv fv:Value}{n:Int}{s:MS}{u u':yH}
theorem gi.QB (k:gi Z h ub wv gv u) (x:Ext (fun y=>y=eb\/y=db) h h') (te:bC h eb 57) (td:bC h db 94):gi Z h' ub wv gv u:=by
 have kub:bC h ub 88:=by obtain⟨_,kk,_⟩:=k.blk;exact kk.ty
 exact k.ext' x (fun q=>q.elim (fun q=>kub.ne te (by decide) q) (fun q=>kub.ne td (by decide) q)) (fun b q q2=>q2.elim (fun q2=>(k.zj b q).ne te (by decide) q2) (fun q2=>(k.zj b q).ne td (by decide) q2)) (fun b q q2=>q2.elim (fun q2=>(k.CN b q).ne te (by decide) q2) (fun q2=>(k.CN b q).ne td (by decide) q2)) (fun b q=>q.elim (fun q=>q▸dR te (by decide) (by decide)) (fun q=>q▸dR td (by decide) (by decide)))
theorem IJ (x:Ext (fun y=>y=eb\/y=db) h h') (te:bC h eb 57) (td:bC h db 94):Mv (Ot Z h) (Ot Z h') h h' :=
 je x (fun b q=>q.elim (fun q=>q▸dR te (by decide) (by decide)) (fun q=>q▸dR td (by decide) (by decide)))
theorem rB.NN (k:rB Z base h eb db ub wv gv tv rv hv lv fv n s u):¬rC ub wv gv eb/\¬rC ub wv gv db/\∀y,rC ub wv gv y->Ot Z h y:=by
 refine⟨fun q=>?_,fun q=>?_,fun y q=>?_⟩
 · rcases q with q|q|q
   · exact k.LF.ne k.blk.ty (by decide) q.symm
   · exact(k.un.zj _ q).ne k.blk.ty (by decide) rfl
   · exact(k.un.CN _ q).ne k.blk.ty (by decide) rfl
 · rcases q with q|q|q
   · exact k.LF.ne k.Bn (by decide) q.symm
   · exact(k.un.zj _ q).ne k.Bn (by decide) rfl
   · exact(k.un.CN _ q).ne k.Bn (by decide) rfl
 · rcases q with q|q|q
   · exact q▸dR k.LF (by decide) (by decide)
   · exact dR (k.un.zj y q) (by decide) (by decide)
   · exact dR (k.un.CN y q) (by decide) (by decide)
theorem rB.HT (k:rB Z base h eb db ub wv gv tv rv hv lv fv n s u) (x:Ext (rC ub wv gv) h h') (un:gi Z h' ub wv' gv' u') (hun:∀b,rC ub wv' gv' b->rC ub wv gv b\/h.size<=b):rB Z base h' eb db ub wv' gv' tv rv hv lv fv n s u':=by
 obtain⟨ne1,ne2,ho⟩:=k.NN
 have hmk:∀y,sJ Z eb db ub wv' gv' y->sJ Z eb db ub wv gv y\/h.size<=y:=fun y q=>by
  rcases q with q|q|q|q
  · exact .inl (.inl q)
  · exact .inl (.inr (.inl q))
  · exact(hun y q).imp (fun q=>.inr (.inr (.inl q))) (fun q=>q)
  · exact .inl (.inr (.inr (.inr q)))
 have hbe:=k.low eb (.inl rfl);have hbl:=k.blk.lt;refine⟨k.blk.ext x ne1,k.txt.mv (je x ho),un,k.doc.others x (fun y q=>⟨.inr (.inr (.inl q)),fun q2=>ne2 (q2▸q)⟩) hmk,k.ms.mv (Mv.cE x fun y hy q=>⟨fun q2=>q (.inr (.inr (.inl q2))),fun q2=>?_⟩),fun y q=>?_,fun y q=>(k.zt y q).ext x (fun q2=>(k.ty y (.inr (.inr (.inl q2)))).ns (k.zt y q) rfl)⟩
 · rcases hmk y q2 with q2|q2
   · exact q q2
   · omega
 · rcases q with q|q|q|q
   · exact k.low y (.inl q)
   · exact k.low y (.inr (.inl q))
   · rcases hun y q with q|q
     · exact k.low y (.inr (.inr (.inl q)))
     · omega
   · exact q.elim
theorem rB.cells {t:MS}(K:rB Z base h eb db ub wv gv tv rv hv lv fv n s u) (k:aD h' eb 57 (La t rv hv lv fv tv ub db)) (x:Ext (fun y=>y=eb) h h') (h0:t.text=s.text) (h1:t.ring=s.ring) (h2:t.hist=s.hist) (h3:t.lines=s.lines) (h4:t.flags=s.flags):rB Z base h' eb db ub wv gv tv rv hv lv fv n t u :=
 s5 k x K.blk.ty (h0▸K.txt) K.un (h0▸K.doc) (K.ms.of h1 h2 h3 h4) K.low K.zt
end
theorem EW (k:eC Z base h eb e) (redo:Bool) (hI:nG B e) (hB:B<=5000000) :
 af Tryz.prog 41 #[.pointer (some ⟨eb,0,none⟩),.bool redo] h (bg fun r h'=>r= .bool (cF e redo).2/\eC Z base h' eb (cF e redo).1/\Ext (nP base h) h h'):=by
 obtain⟨db,ub,wv,gv,tv,rv,hv,lv,fv,n,K⟩:=k;obtain⟨s,u⟩:=e;dsimp only at K;obtain⟨xa,xn,xc,rfl,_⟩:=K.ms.ring.open;obtain⟨ya,yn,yc,rfl,_⟩:=K.ms.hist.open;obtain⟨za,zn,zc,rfl,_⟩:=K.ms.lines.open;obtain⟨ua,un,uc,rfl,_⟩:=K.ms.flags.open;have htx:s.text.length<=16384:=hI.inv.text;have hcn:u.were.length+u.gone.length<=100:=hI.cnt;have hb0:0<=s.bells:=hI.inv.bell0;have hb1:s.bells<=(B:Nat):=hI.inv.bell1;refine af.of func41 rfl rfl ?_;refine ck func41 1 [0,1,4] rfl ?_;refine ck func41 3 [0,1,4,5,6,7] rfl ?_;refine aB rfl ?_;refine ck func41 1 [0,1,4,5,6,7,9] rfl ?_;cases redo
 · refine aA rfl rfl (fun hc=>absurd hc (by decide)) (fun _=>?_);refine G.eE func41 rfl ?_;refine eW 2 rfl rfl (aa (off:=20) underlying57 rfl rfl H.Mw rfl) ?_;refine xp rfl (aq H.Nl rfl (K.blk.cell (i:=20) rfl)) ?_;refine xo rfl (ay.call (vs:=[_]) func86 rfl H.PF rfl (af.cD (DI K.un (by omega) (by omega)))) ?_;rintro r1 h1 ⟨hr,x1⟩
   rcases hr with ⟨hn,rfl,rfl⟩|⟨u',tu,wv',gv',hu,rfl,kt1,un1,hun⟩
   · have hE:cF ⟨s,u⟩ false=(⟨{ s with bells:=s.bells+1 },u⟩,false):=by unfold cF;simp[hn]
     rw[hE];refine cH 7 [0,1,4,5,6,7,9] rfl ?_;refine aB rfl ?_;refine ck func41 2 [0,1,4,5,6,7,9,29] rfl ?_;refine aA rfl rfl (fun _=>?_) (fun hc=>absurd hc (by decide));refine dY func41 2 rfl ?_;refine xp rfl (aa (off:=0) underlying57 rfl rfl H.cv rfl) ?_;refine xp rfl (aa (off:=18) underlying31 rfl rfl H.cq rfl) ?_;refine xp rfl (aq H.gV rfl (K.blk.cell (i:=18) rfl)) ?_;refine xp rfl (ak.cY rfl rfl ⟨by omega,by omega⟩) ?_;refine eW 1 rfl rfl (aa (off:=0) underlying57 rfl rfl H.cv rfl) ?_;refine xp rfl (aa (off:=18) underlying31 rfl rfl H.cq rfl) ?_;refine RW.gq rfl rfl rfl (ay.aP H.cq rfl rfl K.blk (by first|decide|exact of_decide_eq_true rfl|(simp;done)|(simp;omega)) rfl) ?_;rintro _ h3 ⟨rfl,k3,x3,z3⟩;refine xd [0,1,4,5,6,7,9,29] rfl ?_;refine ck func41 1 [0,1,4,5,6,7,9,29] rfl ?_;refine cg func41 rfl rfl ?_;exact⟨_,rfl,rfl,⟨db,ub,wv,gv,tv,_,_,_,_,n,K.cells k3 x3 rfl rfl rfl rfl rfl⟩,x3.mono fun y _ q=>K.ty y (.inl q)⟩
   · have hE:cF ⟨s,u⟩ false=(⟨{ s with text:=u'.t,cur:=(eT u'.t u'.c:Nat) },u'⟩,true):=by
      have:=iT (t:= { s with text:=u'.t,cur:=(eT u'.t u'.c:Nat) }) hI.mode;unfold cF;simp[hu,this]
     have hlt:u'.t.length<=16384:=by have:=(hI.back false).now;rw[hE] at this;exact this
     rw[hE];have K1:=K.HT x1 un1 hun;obtain⟨bu,vu,lu,rfl,_⟩:=id kt1;refine cH 7 [0,1,4,5,6,7,9] rfl ?_;refine aB rfl ?_;refine ck func41 2 [0,1,4,5,6,7,9,29] rfl ?_;refine aA rfl rfl (fun hc=>absurd hc (by decide)) (fun _=>?_);refine aM rfl ?_;refine dY func41 1 rfl ?_;refine xo rfl (ay.call (vs:=[_]) func87 rfl H.Oh rfl (af.cD (qh kt1 (by omega)))) ?_;rintro _ h2 ⟨rfl,e2⟩;have K2:=K1.aj e2;have kb2:aD h2 eb 57 (s8 s (.slice xa xn xc) (.slice ya yn yc) (.slice za zn zc) (.slice ua un uc)++[tv,.pointer (some ⟨ub,0,none⟩),.pointer (some ⟨db,0,none⟩),.int .i64 0,.bool false,.int .i64 0,.int .i32 0]):=K2.blk;have hch:=nj kb2 K2.txt K2.doc u'.t htx hlt K2.lt (.inl rfl) (fun q=>K2.Bn.ne K2.blk.ty (by decide) q.symm) (fun y q=>(K2.zt y q).lt);refine cH 1 [0,1,4,5,6,7,8,9,29] rfl ?_;refine dY func41 2 rfl ?_;refine xo rfl (ay.call (vs:=[_,_]) func24 rfl H.MO rfl (af.cD (hch))) ?_;rintro _ h3 ⟨⟨tv',kb3,kt3,m,kd3⟩,x3⟩;have kt23:=(kt1.mv (Mv.D9 e2)).mv (IJ x3 K2.blk.ty K2.Bn);have un3:=K2.un.QB x3 K2.blk.ty K2.Bn;have hT3:vC (sJ Z eb db ub wv' gv') h3 s (.slice xa xn xc) (.slice ya yn yc) (.slice za zn zc) (.slice ua un uc):=K2.ms.mv (Mv.cE x3 fun y hy q=>⟨fun q2=>q2.elim (fun q2=>q (.inl q2)) (fun q2=>q (.inr (.inl q2))),q⟩);have hfx:=fun {g:ai}=>lY (h:=g) u'.t u'.c (by omega)
     refine xd [0,1,4,5,6,7,8,9,29] rfl ?_;refine dY func41 3 rfl ?_;refine xp rfl (aa (off:=19) underlying57 rfl rfl H.vL rfl) ?_;refine RW.gq rfl rfl rfl (ay.aP H.vL rfl rfl kb3 (by first|decide|exact of_decide_eq_true rfl|(simp;done)|(simp;omega)) rfl) ?_;rintro _ h4 ⟨rfl,k4,x4,z4⟩;refine xd [0,1,4,5,6,7,8,9,29] rfl ?_;refine dY func41 5 rfl ?_;refine xo rfl (ay.call (vs:=[_,_]) func42 rfl H.KE rfl (af.cD (hfx))) ?_;rintro _ h5 ⟨rfl,e5⟩;refine eW 1 rfl rfl (aa (off:=0) underlying57 rfl rfl H.cv rfl) ?_;refine xp rfl (aa (off:=0) underlying31 rfl rfl H.kF rfl) ?_;refine RW.gq rfl rfl rfl (ay.aP H.kF rfl rfl (k4.aj e5) (by first|decide|exact of_decide_eq_true rfl|(simp;done)|(simp;omega)) rfl) ?_;rintro _ h6 ⟨rfl,k6,x6,z6⟩;refine eW 1 rfl rfl (aa (off:=0) underlying57 rfl rfl H.cv rfl) ?_;refine xp rfl (aa (off:=1) underlying31 rfl rfl H.cq rfl) ?_;refine RW.gq rfl rfl rfl (ay.aP H.cq rfl rfl k6 (by first|decide|exact of_decide_eq_true rfl|(simp;done)|(simp;omega)) rfl) ?_;rintro _ h7 ⟨rfl,k7,x7,z7⟩;have k7:aD h7 eb 57 (La { s with text:=u'.t,cur:=(eT u'.t u'.c:Nat) } (.slice xa xn xc) (.slice ya yn yc) (.slice za zn zc) (.slice ua un uc) (.pointer (some ⟨bu,0,none⟩)) ub db):=k7;have hM8:¬Array.size h7<=eb:=by have:=k7.lt;omega
     have c2:cellAt h7 ⟨eb,0+2,none⟩=some (.int .i64 s.mode):=k7.cell (i:=2) rfl;refine xd [0,1,4,5,6,7,8,9,29] rfl ?_;refine aB rfl ?_;refine aB rfl ?_;refine G.pS [(95,.bool false)] [(0,_),(1,_),(4,_),(5,_),(6,_),(7,_),(8,_),(9,_),(29,_)] ⟨rfl,rfl,rfl,rfl,rfl,rfl,rfl,rfl,rfl,trivial⟩ (fun b=>Array.size h7<=b) (fun i=>Nat.blt i 36) (sz:=36) (listed:= #[false,false,false,false,false,false,false,false,false,false,false,false,false,false,false,false,false,false,false,false,false,false,false,false,false,false,false,false,false,false,false,false,false,false,false,false]) func41 H.mixed rfl rfl rfl ?_ ?_
     · refine aO 0 1 (by kernel_rfl) rfl ?_;refine aO 1 3 (by kernel_rfl) rfl ?_;refine b9 2 7 (by kernel_rfl) rfl (fun h' e=>aa (off:=0) underlying57 rfl rfl H.cv rfl) ?_;refine b9 3 15 (by kernel_rfl) rfl (fun h' e=>aa (off:=2) underlying31 rfl rfl H.cq rfl) ?_;refine b9 4 31 (by kernel_rfl) rfl (fun h' e=>aq H.gV rfl (e.cell hM8 c2)) ?_;refine aO 5 63 (by kernel_rfl) rfl ?_;refine aO 6 127 (by kernel_rfl) rfl ?_;refine RD.dO (d:=66) (b':=false) rfl (decide_eq_false (by have:=hI.mode;simp only at this;omega)) ?_;refine dB 7 255 (by kernel_rfl) rfl ?_;refine dB 8 511 (by kernel_rfl) rfl ?_;refine dB 9 1023 (by kernel_rfl) rfl ?_;refine dB 10 2047 (by kernel_rfl) rfl ?_;refine dB 11 4095 (by kernel_rfl) rfl ?_;refine dB 12 8191 (by kernel_rfl) rfl ?_;refine dB 13 16383 (by kernel_rfl) rfl ?_;refine dB 14 32767 (by kernel_rfl) rfl ?_;refine dB 15 65535 (by kernel_rfl) rfl ?_;refine dB 16 131071 (by kernel_rfl) rfl ?_;refine dB 17 262143 (by kernel_rfl) rfl ?_;refine dB 18 524287 (by kernel_rfl) rfl ?_;refine dB 19 1048575 (by kernel_rfl) rfl ?_;refine aO 20 2097151 (by kernel_rfl) rfl ?_;refine aO 21 4194303 (by kernel_rfl) rfl ?_;refine dB 22 8388607 (by kernel_rfl) rfl ?_;refine dB 23 16777215 (by kernel_rfl) rfl ?_;refine dB 24 33554431 (by kernel_rfl) rfl ?_;refine dB 25 67108863 (by kernel_rfl) rfl ?_;refine dB 26 134217727 (by kernel_rfl) rfl ?_;refine dB 27 268435455 (by kernel_rfl) rfl ?_;refine dB 28 536870911 (by kernel_rfl) rfl ?_;refine dB 29 1073741823 (by kernel_rfl) rfl ?_;refine dB 30 2147483647 (by kernel_rfl) rfl ?_;refine dB 31 4294967295 (by kernel_rfl) rfl ?_;refine dB 32 8589934591 (by kernel_rfl) rfl ?_;refine dB 33 17179869183 (by kernel_rfl) rfl ?_;refine dB 34 34359738367 (by kernel_rfl) rfl ?_;refine aO 35 68719476735 (by kernel_rfl) rfl ?_;refine RD.done (by kernel_rfl) ?_;exact⟨rfl,au rfl (rfl),rfl,rfl,rfl,rfl,rfl,rfl,rfl,rfl,rfl,trivial⟩
     · refine aA rfl rfl (fun hc=>absurd hc (by decide)) (fun _=>?_);refine aM rfl ?_;refine ck func41 1 [0,1,4,5,6,7,8,9,29,95] rfl ?_;refine cg func41 rfl rfl ?_;have xe:Ext (fun y=>y=eb) h3 h7:=((x4.trans (an.of e5)).trans x6).trans x7;exact⟨_,rfl,rfl,⟨db,ub,wv',gv',_,_,_,_,_,m,s5 k7 xe kb3.ty kt23 un3 kd3 (hT3.of rfl rfl rfl rfl) K2.low (fun y q=>(K2.zt y q).ext x3 (fun q2=>(K2.ty y (q2.imp (fun q=>q) (fun q=>.inl q))).ns (K2.zt y q) rfl))⟩,(((x1.mono fun y _ q=>K.ty y (.inr (.inr (.inl q)))).trans (an.of e2)).trans (x3.mono fun y hy q=>nP.back ((x1.mono fun y _ q=>K.ty y (.inr (.inr (.inl q)))).trans (an.of e2)) y (by have:=(K.lt eb (.inl rfl));have:=(K.lt db (.inr (.inl rfl)));rcases q with q|q<;>omega) (K2.ty y (q.imp (fun q=>q) (fun q=>.inl q))))).trans (xe.mono fun y _ q=>K.ty y (.inl q))⟩
 · refine aA rfl rfl (fun _=>?_) (fun hc=>absurd hc (by decide));refine G.eE func41 rfl ?_;refine eW 2 rfl rfl (aa (off:=20) underlying57 rfl rfl H.Mw rfl) ?_;refine xp rfl (aq H.Nl rfl (K.blk.cell (i:=20) rfl)) ?_;refine xo rfl (ay.call (vs:=[_]) func85 rfl H.PG rfl (af.cD (D4 K.un (by omega) (by omega)))) ?_;rintro r1 h1 ⟨hr,x1⟩
   rcases hr with ⟨hn,rfl,rfl⟩|⟨u',tu,wv',gv',hu,rfl,kt1,un1,hun⟩
   · have hE:cF ⟨s,u⟩ true=(⟨{ s with bells:=s.bells+1 },u⟩,false):=by unfold cF;simp[hn]
     rw[hE];refine cH 7 [0,1,4,5,6,7,9] rfl ?_;refine aB rfl ?_;refine ck func41 2 [0,1,4,5,6,7,9,29] rfl ?_;refine aA rfl rfl (fun _=>?_) (fun hc=>absurd hc (by decide));refine dY func41 2 rfl ?_;refine xp rfl (aa (off:=0) underlying57 rfl rfl H.cv rfl) ?_;refine xp rfl (aa (off:=18) underlying31 rfl rfl H.cq rfl) ?_;refine xp rfl (aq H.gV rfl (K.blk.cell (i:=18) rfl)) ?_;refine xp rfl (ak.cY rfl rfl ⟨by omega,by omega⟩) ?_;refine eW 1 rfl rfl (aa (off:=0) underlying57 rfl rfl H.cv rfl) ?_;refine xp rfl (aa (off:=18) underlying31 rfl rfl H.cq rfl) ?_;refine RW.gq rfl rfl rfl (ay.aP H.cq rfl rfl K.blk (by first|decide|exact of_decide_eq_true rfl|(simp;done)|(simp;omega)) rfl) ?_;rintro _ h3 ⟨rfl,k3,x3,z3⟩;refine xd [0,1,4,5,6,7,9,29] rfl ?_;refine ck func41 1 [0,1,4,5,6,7,9,29] rfl ?_;refine cg func41 rfl rfl ?_;exact⟨_,rfl,rfl,⟨db,ub,wv,gv,tv,_,_,_,_,n,K.cells k3 x3 rfl rfl rfl rfl rfl⟩,x3.mono fun y _ q=>K.ty y (.inl q)⟩
   · have hE:cF ⟨s,u⟩ true=(⟨{ s with text:=u'.t,cur:=(eT u'.t u'.c:Nat) },u'⟩,true):=by
      have:=iT (t:= { s with text:=u'.t,cur:=(eT u'.t u'.c:Nat) }) hI.mode;unfold cF;simp[hu,this]
     have hlt:u'.t.length<=16384:=by have:=(hI.back true).now;rw[hE] at this;exact this
     rw[hE];have K1:=K.HT x1 un1 hun;obtain⟨bu,vu,lu,rfl,_⟩:=id kt1;refine cH 7 [0,1,4,5,6,7,9] rfl ?_;refine aB rfl ?_;refine ck func41 2 [0,1,4,5,6,7,9,29] rfl ?_;refine aA rfl rfl (fun hc=>absurd hc (by decide)) (fun _=>?_);refine aM rfl ?_;refine dY func41 1 rfl ?_;refine xo rfl (ay.call (vs:=[_]) func87 rfl H.Oh rfl (af.cD (qh kt1 (by omega)))) ?_;rintro _ h2 ⟨rfl,e2⟩;have K2:=K1.aj e2;have kb2:aD h2 eb 57 (s8 s (.slice xa xn xc) (.slice ya yn yc) (.slice za zn zc) (.slice ua un uc)++[tv,.pointer (some ⟨ub,0,none⟩),.pointer (some ⟨db,0,none⟩),.int .i64 0,.bool false,.int .i64 0,.int .i32 0]):=K2.blk;have hch:=nj kb2 K2.txt K2.doc u'.t htx hlt K2.lt (.inl rfl) (fun q=>K2.Bn.ne K2.blk.ty (by decide) q.symm) (fun y q=>(K2.zt y q).lt);refine cH 1 [0,1,4,5,6,7,8,9,29] rfl ?_;refine dY func41 2 rfl ?_;refine xo rfl (ay.call (vs:=[_,_]) func24 rfl H.MO rfl (af.cD (hch))) ?_;rintro _ h3 ⟨⟨tv',kb3,kt3,m,kd3⟩,x3⟩;have kt23:=(kt1.mv (Mv.D9 e2)).mv (IJ x3 K2.blk.ty K2.Bn);have un3:=K2.un.QB x3 K2.blk.ty K2.Bn;have hT3:vC (sJ Z eb db ub wv' gv') h3 s (.slice xa xn xc) (.slice ya yn yc) (.slice za zn zc) (.slice ua un uc):=K2.ms.mv (Mv.cE x3 fun y hy q=>⟨fun q2=>q2.elim (fun q2=>q (.inl q2)) (fun q2=>q (.inr (.inl q2))),q⟩);have hfx:=fun {g:ai}=>lY (h:=g) u'.t u'.c (by omega)
     refine xd [0,1,4,5,6,7,8,9,29] rfl ?_;refine dY func41 3 rfl ?_;refine xp rfl (aa (off:=19) underlying57 rfl rfl H.vL rfl) ?_;refine RW.gq rfl rfl rfl (ay.aP H.vL rfl rfl kb3 (by first|decide|exact of_decide_eq_true rfl|(simp;done)|(simp;omega)) rfl) ?_;rintro _ h4 ⟨rfl,k4,x4,z4⟩;refine xd [0,1,4,5,6,7,8,9,29] rfl ?_;refine dY func41 5 rfl ?_;refine xo rfl (ay.call (vs:=[_,_]) func42 rfl H.KE rfl (af.cD (hfx))) ?_;rintro _ h5 ⟨rfl,e5⟩;refine eW 1 rfl rfl (aa (off:=0) underlying57 rfl rfl H.cv rfl) ?_;refine xp rfl (aa (off:=0) underlying31 rfl rfl H.kF rfl) ?_;refine RW.gq rfl rfl rfl (ay.aP H.kF rfl rfl (k4.aj e5) (by first|decide|exact of_decide_eq_true rfl|(simp;done)|(simp;omega)) rfl) ?_;rintro _ h6 ⟨rfl,k6,x6,z6⟩;refine eW 1 rfl rfl (aa (off:=0) underlying57 rfl rfl H.cv rfl) ?_;refine xp rfl (aa (off:=1) underlying31 rfl rfl H.cq rfl) ?_;refine RW.gq rfl rfl rfl (ay.aP H.cq rfl rfl k6 (by first|decide|exact of_decide_eq_true rfl|(simp;done)|(simp;omega)) rfl) ?_;rintro _ h7 ⟨rfl,k7,x7,z7⟩;have k7:aD h7 eb 57 (La { s with text:=u'.t,cur:=(eT u'.t u'.c:Nat) } (.slice xa xn xc) (.slice ya yn yc) (.slice za zn zc) (.slice ua un uc) (.pointer (some ⟨bu,0,none⟩)) ub db):=k7;have hM8:¬Array.size h7<=eb:=by have:=k7.lt;omega
     have c2:cellAt h7 ⟨eb,0+2,none⟩=some (.int .i64 s.mode):=k7.cell (i:=2) rfl;refine xd [0,1,4,5,6,7,8,9,29] rfl ?_;refine aB rfl ?_;refine aB rfl ?_;refine G.pS [(95,.bool false)] [(0,_),(1,_),(4,_),(5,_),(6,_),(7,_),(8,_),(9,_),(29,_)] ⟨rfl,rfl,rfl,rfl,rfl,rfl,rfl,rfl,rfl,trivial⟩ (fun b=>Array.size h7<=b) (fun i=>Nat.blt i 36) (sz:=36) (listed:= #[false,false,false,false,false,false,false,false,false,false,false,false,false,false,false,false,false,false,false,false,false,false,false,false,false,false,false,false,false,false,false,false,false,false,false,false]) func41 H.mixed rfl rfl rfl ?_ ?_
     · refine aO 0 1 (by kernel_rfl) rfl ?_;refine aO 1 3 (by kernel_rfl) rfl ?_;refine b9 2 7 (by kernel_rfl) rfl (fun h' e=>aa (off:=0) underlying57 rfl rfl H.cv rfl) ?_;refine b9 3 15 (by kernel_rfl) rfl (fun h' e=>aa (off:=2) underlying31 rfl rfl H.cq rfl) ?_;refine b9 4 31 (by kernel_rfl) rfl (fun h' e=>aq H.gV rfl (e.cell hM8 c2)) ?_;refine aO 5 63 (by kernel_rfl) rfl ?_;refine aO 6 127 (by kernel_rfl) rfl ?_;refine RD.dO (d:=66) (b':=false) rfl (decide_eq_false (by have:=hI.mode;simp only at this;omega)) ?_;refine dB 7 255 (by kernel_rfl) rfl ?_;refine dB 8 511 (by kernel_rfl) rfl ?_;refine dB 9 1023 (by kernel_rfl) rfl ?_;refine dB 10 2047 (by kernel_rfl) rfl ?_;refine dB 11 4095 (by kernel_rfl) rfl ?_;refine dB 12 8191 (by kernel_rfl) rfl ?_;refine dB 13 16383 (by kernel_rfl) rfl ?_;refine dB 14 32767 (by kernel_rfl) rfl ?_;refine dB 15 65535 (by kernel_rfl) rfl ?_;refine dB 16 131071 (by kernel_rfl) rfl ?_;refine dB 17 262143 (by kernel_rfl) rfl ?_;refine dB 18 524287 (by kernel_rfl) rfl ?_;refine dB 19 1048575 (by kernel_rfl) rfl ?_;refine aO 20 2097151 (by kernel_rfl) rfl ?_;refine aO 21 4194303 (by kernel_rfl) rfl ?_;refine dB 22 8388607 (by kernel_rfl) rfl ?_;refine dB 23 16777215 (by kernel_rfl) rfl ?_;refine dB 24 33554431 (by kernel_rfl) rfl ?_;refine dB 25 67108863 (by kernel_rfl) rfl ?_;refine dB 26 134217727 (by kernel_rfl) rfl ?_;refine dB 27 268435455 (by kernel_rfl) rfl ?_;refine dB 28 536870911 (by kernel_rfl) rfl ?_;refine dB 29 1073741823 (by kernel_rfl) rfl ?_;refine dB 30 2147483647 (by kernel_rfl) rfl ?_;refine dB 31 4294967295 (by kernel_rfl) rfl ?_;refine dB 32 8589934591 (by kernel_rfl) rfl ?_;refine dB 33 17179869183 (by kernel_rfl) rfl ?_;refine dB 34 34359738367 (by kernel_rfl) rfl ?_;refine aO 35 68719476735 (by kernel_rfl) rfl ?_;refine RD.done (by kernel_rfl) ?_;exact⟨rfl,au rfl (rfl),rfl,rfl,rfl,rfl,rfl,rfl,rfl,rfl,rfl,trivial⟩
     · refine aA rfl rfl (fun hc=>absurd hc (by decide)) (fun _=>?_);refine aM rfl ?_;refine ck func41 1 [0,1,4,5,6,7,8,9,29,95] rfl ?_;refine cg func41 rfl rfl ?_;have xe:Ext (fun y=>y=eb) h3 h7:=((x4.trans (an.of e5)).trans x6).trans x7;exact⟨_,rfl,rfl,⟨db,ub,wv',gv',_,_,_,_,_,m,s5 k7 xe kb3.ty kt23 un3 kd3 (hT3.of rfl rfl rfl rfl) K2.low (fun y q=>(K2.zt y q).ext x3 (fun q2=>(K2.ty y (q2.imp (fun q=>q) (fun q=>.inl q))).ns (K2.zt y q) rfl))⟩,(((x1.mono fun y _ q=>K.ty y (.inr (.inr (.inl q)))).trans (an.of e2)).trans (x3.mono fun y hy q=>nP.back ((x1.mono fun y _ q=>K.ty y (.inr (.inr (.inl q)))).trans (an.of e2)) y (by have:=(K.lt eb (.inl rfl));have:=(K.lt db (.inr (.inl rfl)));rcases q with q|q<;>omega) (K2.ty y (q.imp (fun q=>q) (fun q=>.inl q))))).trans (xe.mono fun y _ q=>K.ty y (.inl q))⟩
theorem De (k:eC Z base h eb e) (redo:Bool) (n:Int) (hI:nG B e) (hB:B<=4000000) :
 af Tryz.prog 21 #[.pointer (some ⟨eb,0,none⟩),.bool redo,.int .i64 n] h (bg fun _ h'=>eC Z base h' eb (fK e redo n)/\Ext (nP base h) h h'):=by
 obtain⟨N,hN,hN1⟩:∃N:Nat,(if 100<(if n<0 then 0 else n) then 100 else (if n<0 then 0 else n))=(N:Int)/\N<=100:=⟨(if 100<(if n<0 then 0 else n) then 100 else (if n<0 then 0 else n)).toNat,by split<;>split<;>omega,by split<;>split<;>omega⟩
 have hE:fK e redo n=dP N (B0 e) redo:=by
  rw[xS]
  congr 1
  have:(min (max n 0) 100)=(N:Int):=by rw[<-hN];split<;>split<;>omega
  rw[this];rfl
 rw[hE];have hI0:=hI.set;obtain⟨db,ub,wv,gv,tv,rv,hv,lv,fv,m,K⟩:=k;have hmode:=hI.mode
 have hset:B0 e=⟨{ e.s with last:=0,mark:= -1 },e.u⟩:=by
  unfold B0;rw[if_neg (by omega)]
 obtain⟨xa,xn,xc,rfl,_⟩:=K.ms.ring.open;obtain⟨ya,yn,yc,rfl,_⟩:=K.ms.hist.open;obtain⟨za,zn,zc,rfl,_⟩:=K.ms.lines.open;obtain⟨ua,un,uc,rfl,_⟩:=K.ms.flags.open;refine af.of func21 rfl rfl ?_;refine dY func21 3 rfl ?_;refine xp rfl (aa (off:=0) underlying57 rfl rfl H.cv rfl) ?_;refine xp rfl (aa (off:=8) underlying31 rfl rfl H.cq rfl) ?_;refine RW.gq rfl rfl rfl (ay.aP H.cq rfl rfl K.blk (by first|decide|exact of_decide_eq_true rfl|(simp;done)|(simp;omega)) rfl) ?_;rintro _ h1 ⟨rfl,k1,x1,z1⟩;refine eW 1 rfl rfl (aa (off:=0) underlying57 rfl rfl H.cv rfl) ?_;refine xp rfl (aa (off:=3) underlying31 rfl rfl H.cq rfl) ?_;refine RW.gq rfl rfl rfl (ay.aP H.cq rfl rfl k1 (by first|decide|exact of_decide_eq_true rfl|(simp;done)|(simp;omega)) rfl) ?_;rintro _ h2 ⟨rfl,k2,x2,z2⟩;have k2:aD h2 eb 57 (La { e.s with last:=0,mark:= -1 } (.slice xa xn xc) (.slice ya yn yc) (.slice za zn zc) (.slice ua un uc) tv ub db):=k2
 have K2:eC Z base h2 eb (B0 e):=by
  rw[hset];exact⟨db,ub,wv,gv,tv,_,_,_,_,m,K.cells k2 (x1.trans x2) rfl rfl rfl rfl rfl⟩
 have x02:Ext (nP base h) h h2:=(x1.trans x2).mono fun y _ q=>K.ty y (.inl q)
 refine xd [0,1,2] rfl ?_;refine aB rfl ?_;refine dY func21 2 rfl ?_;refine xp rfl (aa (off:=0) underlying57 rfl rfl H.cv rfl) ?_;refine xp rfl (aa (off:=2) underlying31 rfl rfl H.cq rfl) ?_;refine xp rfl (aq H.gV rfl (k2.cell (i:=2) rfl)) ?_;refine cH 1 [0,1,2,19] rfl ?_;refine aA rfl rfl (fun hc=>absurd hc (by simp;omega)) (fun _=>?_);refine aM rfl ?_;refine dY func21 1 rfl ?_;refine xp rfl (ak.max2 rfl rfl) ?_;refine xp rfl (ak.min2 rfl rfl) ?_;refine cH 1 [0,1,2,19,26,27] rfl ?_;refine G.block rfl rfl ?_;rw[hN];generalize hF:dP N (B0 e) redo=F;refine gj (σ:=Nat) (fun i=>[(0,.pointer (some ⟨eb,0,none⟩)),(1,.bool redo),(26,.int .i64 (N:Nat)),(27,.int .i64 (i:Nat))]) (fun i h'=>∃ei,eC Z base h' eb ei/\nG (B+i) ei/\dP (N-i) ei redo=F/\Ext (nP base h) h h'/\i<=N) (fun i=>N-i) (0) rfl ⟨rfl,rfl,rfl,rfl,trivial⟩ ⟨B0 e,K2,hI0.up (by omega),hF,x02,Nat.zero_le _⟩ ?_;rintro i h3 ⟨ei,K3,hI3,hF3,x3,hle⟩ ih;refine ck func21 1 [0,1,26,27,28] rfl ?_;refine aB rfl ?_;refine dz rfl rfl (fun hlt=>?_) (fun hlt=>?_)
 · have hlt':i<N:=by omega
   have hB3:dP (N-i) ei redo=dP (N-(i+1)+1) ei redo:=by rw[show N-(i+1)+1=N-i by omega]
   refine aM rfl ?_;refine aB rfl ?_;refine G.block rfl rfl ?_;refine dY func21 2 rfl ?_;refine xo rfl (ay.call (vs:=[_,_]) func41 rfl H.PZ rfl (af.cD (EW K3 redo hI3 (by omega)))) ?_;rintro _ h4 ⟨rfl,K4,x4⟩;refine cH 1 [0,1,26,27,28,32] rfl ?_;refine aA rfl rfl (fun hb=>?_) (fun hb=>?_)
   · refine cg func21 rfl rfl ?_;rw[hB3,EV (by simpa using hb)] at hF3;exact⟨_,rfl,hF3▸K4,nP.trans x3 x4⟩
   · rw[hB3,Df (by simpa using hb)] at hF3;refine aM rfl ?_;refine G.cn ?_;refine G.eE func21 rfl ?_;refine xp rfl (ak.cY rfl rfl ⟨by omega,by omega⟩) ?_;refine cH 1 [0,1,26,27,28,32] rfl ?_;exact ih (i+1) _ _ ⟨rfl,rfl,rfl,rfl,trivial⟩ ⟨_,K4,hI3.back redo,hF3,nP.trans x3 x4,hlt'⟩ (by omega)
 · refine ir rfl rfl ?_;refine G.G7 func21 rfl ?_;rw[show N-i=0 by omega] at hF3;exact⟨_,rfl,hF3▸K3,x3⟩
theorem kJ (k:eC Z base h eb e) (c:Cm) (hk:c.kind=12\/c.kind=13) (hI:nG B e) (hB:B<=4000000) :
 af Tryz.prog 7 #[.pointer (some ⟨eb,0,none⟩),HK c] h (bg fun _ h'=>eC Z base h' eb (fK e (decide (c.kind=13)) c.n)/\Ext (nP base h) h h'):=by
 obtain⟨db,ub,wv,gv,tv,rv,hv,lv,fv,m,K⟩:=id k;have hmode:=hI.mode;refine af.of func7 rfl rfl ?_;refine xr func7 rfl ?_;refine xo rfl (ay.kH rfl) ?_;rintro _ h1 ⟨rfl,k1,e1,z1⟩;have k1:aD h1 h.size 28 (FQ c):=k1;refine xd [0,1,3] rfl ?_;refine aB rfl ?_;refine G.block rfl rfl ?_;refine dY func7 1 rfl ?_;refine xo rfl (ay.call (vs:=[_]) func20 rfl H.IT rfl (af.cD (oK (K.aj e1).blk))) ?_;rintro _ h2 ⟨rfl,hh2⟩;refine cH 1 [0,1,3,13] rfl ?_;subst hh2;have kb2:=(K.aj e1).blk;refine aA rfl rfl (fun hc=>absurd hc (by decide)) (fun _=>?_);refine aB rfl ?_;refine G.fF [(16,.bool false)] [(0,_),(1,_),(3,_),(13,_)] ⟨rfl,rfl,rfl,rfl,trivial⟩ func7 rfl ?_ ?_
 · refine xp rfl (aa (off:=0) underlying28 rfl rfl H.cq rfl) ?_;refine xp rfl (aq H.gV rfl (k1.cell (i:=0) rfl)) ?_;refine dX 2 rfl ?_;refine RW.split (d:=20) rfl (fun q1=>?_) (fun q1=>?_)
   · refine xp rfl (aa (off:=0) underlying28 rfl rfl H.cq rfl) ?_;refine xp rfl (aq H.gV rfl (k1.cell (i:=0) rfl)) ?_;refine dX 3 rfl ?_;refine RW.done rfl ?_;exact⟨rfl,au rfl (by simp at q1 ⊢;omega),rfl,rfl,rfl,rfl,trivial⟩
   · refine dX 5 rfl ?_;refine RW.done rfl ?_;exact⟨rfl,au rfl (rfl),rfl,rfl,rfl,rfl,trivial⟩
 · refine aA rfl rfl (fun hc=>absurd hc (by decide)) (fun _=>?_);refine dY func7 2 rfl ?_;refine xp rfl (aa (off:=0) underlying57 rfl rfl H.cv rfl) ?_;refine xp rfl (aa (off:=2) underlying31 rfl rfl H.cq rfl) ?_;refine xp rfl (aq H.gV rfl (kb2.cell (i:=2) rfl)) ?_;refine cH 2 [0,1,3,13,16,25] rfl ?_;refine aA rfl rfl (fun hc=>absurd hc (by simp;omega)) (fun _=>?_);refine dY func7 1 rfl ?_;refine xp rfl (aa (off:=0) underlying28 rfl rfl H.cq rfl) ?_;refine xp rfl (aq H.gV rfl (k1.cell (i:=0) rfl)) ?_;refine eW 1 rfl rfl (aa (off:=2) underlying28 rfl rfl H.cq rfl) ?_;refine xp rfl (aq H.gV rfl (k1.cell (i:=2) rfl)) ?_;refine xo rfl (ay.call (vs:=[_,_,_]) func21 rfl H.P4 rfl (af.cD (De (k.aj e1) (decide (c.kind=13)) c.n hI hB))) ?_;rintro _ h3 ⟨K3,x3⟩;refine xd [0,1,3,13,16,25] rfl ?_;refine cg func7 rfl rfl ?_;exact⟨_,rfl,K3,nP.trans (an.of e1) x3⟩
theorem dw (k:eC Z base h eb e) (hI:MI B e.s) (hB:B<=5000000) :
 af Tryz.prog 8 #[.pointer (some ⟨eb,0,none⟩)] h (bg fun r h'=>(∃xa xn xc ya yn yc za zn zc ua un uc,r= .agg (s8 e.s (.slice xa xn xc) (.slice ya yn yc) (.slice za zn zc) (.slice ua un uc)).toArray)/\an h h'):=by
 obtain⟨db,ub,wv,gv,tv,rv,hv,lv,fv,m,K⟩:=k;obtain⟨s,u⟩:=e;dsimp only at K hI;obtain⟨xa,xn,xc,rfl,_⟩:=K.ms.ring.open;obtain⟨ya,yn,yc,rfl,_⟩:=K.ms.hist.open;obtain⟨za,zn,zc,rfl,_⟩:=K.ms.lines.open;obtain⟨ua,un,uc,rfl,_⟩:=K.ms.flags.open;have l1:=K.ms.ring.open_slice.len;have l2:=K.ms.hist.open_slice.len;have l3:=K.ms.lines.open_slice.len;have l4:=K.ms.flags.open_slice.len;have i2:=hI.ringn;have i3:=hI.histn;have i4:=hI.flags;have i5:=hI.linesn;refine af.of func8 rfl rfl ?_;refine xr func8 rfl ?_;refine xo rfl (ay.cS H.BJ) ?_;rintro _ h1 ⟨rfl,k1,e1,z1⟩;refine xd [0,2] rfl ?_;refine aB rfl ?_;refine dY func8 1 rfl ?_;refine xo rfl (ay.call (vs:=[_]) func20 rfl H.IT rfl (af.cD (oK (K.aj e1).blk))) ?_;rintro _ h2 ⟨rfl,hh2⟩;refine xd [0,2,5] rfl ?_;subst hh2;refine aA rfl rfl (fun hc=>absurd hc (by decide)) (fun _=>?_);have K2:=K.aj e1;refine aM rfl ?_;refine dY func8 2 rfl ?_;refine xp rfl (aa (off:=0) underlying57 rfl rfl H.cv rfl) ?_;refine xp rfl (ak.aF H.jE H.cv rfl (jG K2.blk.row) (by first|rfl|(simp;done)|(simp;omega))) ?_;refine xo rfl (ay.cS H.BJ) ?_;rintro _ h3 ⟨rfl,k3,e3,z3⟩;refine RW.gq rfl rfl rfl (ay.aG H.cv rfl rfl k3 (by first|rfl|(simp;done)|(simp;omega)) (by first|decide|exact of_decide_eq_true rfl|(simp;done)|(simp;omega)) (ms1)) ?_;rintro _ h4 ⟨rfl,k4,x4,z4⟩;have hle:h.size<=h2.size:=e1.size;have hne:¬h.size=h2.size:=by omega
 have E:an h h4:=an.only (e1.trans e3) x4 hle;have k1:=(k1.aj e3).ext x4 hne;refine xd [0,2,3,5] rfl ?_;refine xr func8 rfl ?_;refine xp rfl (aa (off:=4) underlying31 rfl rfl H.nU rfl) ?_;refine xp rfl (aq H.Dl rfl (k4.cell (i:=4) rfl)) ?_;refine xo rfl (ay.append underlying22 H.uH rfl rfl (ax.nil h4 h4.size 9 1) (show (s.ring.map lZ).length=xn*1 by simp;omega) (bz.row (h1:=fun _=>rfl) (K.ms.ring.aj E)).2.1 (sG _) (by simp only[maxLen];omega) (by omega) (by omega)) ?_;rintro v5 h5 ⟨ho5,hx5,_,_⟩;obtain⟨pa,pc,rfl,_⟩:=ho5.open;have e5:an h4 h5:=hx5.mono fun _ _ q=>by cases q
 refine xp rfl (aa (off:=4) underlying31 rfl rfl H.nU rfl) ?_;refine RW.gq rfl rfl rfl (ay.aP H.nU rfl rfl (k4.aj e5) (by first|decide|exact of_decide_eq_true rfl|(simp;done)|(simp;omega)) rfl) ?_;rintro _ h6 ⟨rfl,k6,x6,z6⟩;have E:=an.only (E.trans e5) x6 hle;have k1:=(k1.aj e5).ext x6 hne;refine xd [0,2,3,5] rfl ?_;refine xr func8 rfl ?_;refine xp rfl (aa (off:=5) underlying31 rfl rfl H.nU rfl) ?_;refine xp rfl (aq H.Dl rfl (k6.cell (i:=5) rfl)) ?_;refine xo rfl (ay.append underlying22 H.uH rfl rfl (ax.nil h6 h6.size 9 1) (show (s.hist.map lZ).length=yn*1 by simp;omega) (bz.row (h1:=fun _=>rfl) (K.ms.hist.aj E)).2.1 (sG _) (by simp only[maxLen];omega) (by omega) (by omega)) ?_;rintro v5 h5 ⟨ho5,hx5,_,_⟩;obtain⟨pa,pc,rfl,_⟩:=ho5.open;have e5:an h6 h5:=hx5.mono fun _ _ q=>by cases q
 refine xp rfl (aa (off:=5) underlying31 rfl rfl H.nU rfl) ?_;refine RW.gq rfl rfl rfl (ay.aP H.nU rfl rfl (k6.aj e5) (by first|decide|exact of_decide_eq_true rfl|(simp;done)|(simp;omega)) rfl) ?_;rintro _ h6 ⟨rfl,k6,x6,z6⟩;have E:=an.only (E.trans e5) x6 hle;have k1:=(k1.aj e5).ext x6 hne;refine xd [0,2,3,5] rfl ?_;refine xr func8 rfl ?_;refine xp rfl (aa (off:=16) underlying31 rfl rfl H.nU rfl) ?_;refine xp rfl (aq H.Dl rfl (k6.cell (i:=16) rfl)) ?_;refine xo rfl (ay.append underlying22 H.uH rfl rfl (ax.nil h6 h6.size 9 1) (show (s.lines.map lZ).length=zn*1 by simp;omega) (bz.row (h1:=fun _=>rfl) (K.ms.lines.aj E)).2.1 (sG _) (by simp only[maxLen];omega) (by omega) (by omega)) ?_;rintro v5 h5 ⟨ho5,hx5,_,_⟩;obtain⟨pa,pc,rfl,_⟩:=ho5.open;have e5:an h6 h5:=hx5.mono fun _ _ q=>by cases q
 refine xp rfl (aa (off:=16) underlying31 rfl rfl H.nU rfl) ?_;refine RW.gq rfl rfl rfl (ay.aP H.nU rfl rfl (k6.aj e5) (by first|decide|exact of_decide_eq_true rfl|(simp;done)|(simp;omega)) rfl) ?_;rintro _ h6 ⟨rfl,k6,x6,z6⟩;have E:=an.only (E.trans e5) x6 hle;have k1:=(k1.aj e5).ext x6 hne;refine xd [0,2,3,5] rfl ?_;refine xr func8 rfl ?_;refine xp rfl (aa (off:=17) underlying31 rfl rfl H.Ib rfl) ?_;refine xp rfl (aq H.OU rfl (k6.cell (i:=17) rfl)) ?_;refine xo rfl (ay.append underlying29 H.ND rfl rfl (ax.nil h6 h6.size 4 1) (show (s.flags.map Value.bool).length=un*1 by simp;omega) (bz.row (h1:=fun _=>rfl) (K.ms.flags.aj E)).2.1 (fun u hu=>by obtain⟨_,_,rfl⟩:=List.mem_map.1 hu;rfl) (by simp only[maxLen];omega) (by omega) (by omega)) ?_;rintro v5 h5 ⟨ho5,hx5,_,_⟩;obtain⟨pa,pc,rfl,_⟩:=ho5.open;have e5:an h6 h5:=hx5.mono fun _ _ q=>by cases q
 refine xp rfl (aa (off:=17) underlying31 rfl rfl H.Ib rfl) ?_;refine RW.gq rfl rfl rfl (ay.aP H.Ib rfl rfl (k6.aj e5) (by first|decide|exact of_decide_eq_true rfl|(simp;done)|(simp;omega)) rfl) ?_;rintro _ h6 ⟨rfl,k6,x6,z6⟩;have E:=an.only (E.trans e5) x6 hle;have k1:=(k1.aj e5).ext x6 hne;refine xd [0,2,3,5] rfl ?_;refine xr func8 rfl ?_;refine xp rfl (ak.aF H.jE H.cv rfl k6.row (by first|rfl|(simp;done)|(simp;omega))) ?_;refine RW.gq rfl rfl rfl (ay.aG H.cv rfl rfl k1 (by first|rfl|(simp;done)|(simp;omega)) (by first|decide|exact of_decide_eq_true rfl|(simp;done)|(simp;omega)) (ms1)) ?_;rintro _ gz ⟨rfl,kz,xz,zz⟩;refine xd [0,2,3,5] rfl ?_;refine G.tC func8 rfl (.cons (cZ.qC H.jE H.cv rfl (kz.row) (by first|rfl|(simp;done)|(simp;omega))) (.nil)) ?_;exact⟨_,rfl,⟨_,_,_,_,_,_,_,_,_,_,_,_,rfl⟩,an.only E xz (Nat.le_refl _)⟩
def Fa (h:ai) (v:Value) (c:Cm):Prop:=∃b:Nat,v= .slice (some ⟨b,0,none⟩) 1 1/\aD h b 28 (FQ c)
def Bd (k r:Int):List Value:=[.int .i64 k,.int .i32 r,.string (bs [])]
def Je (k r:Int):Value:=.agg #[.int .i64 k,.int .i32 r,.string (bs [])]
def vh (k r:Int) (c:Cm):Prop:=(k=1/\0<=r/\r<128/\c.kind=2/\c.way=0/\c.n=1/\c.incl=false/\Utf8.encode r=bs c.text)\/(k=2/\c=⟨14,0,1,[],false⟩)\/(k=6/\r=122/\c=⟨12,0,1,[],false⟩)\/(k=7/\r=122/\c=⟨13,0,1,[],false⟩)
theorem Bu (r:Int) (h0:0<=r) (h1:r<128):af Tryz.prog 113 #[.int .i32 r] h (bg fun v h'=>v= .bool true/\h'=h):=by
 refine af.of func113 rfl rfl ?_;refine ck func113 1 [0,2] rfl ?_;refine aB rfl ?_;refine G.block rfl rfl ?_;refine aB rfl ?_;refine G.fF [(3,.bool true)] [(0,_),(2,_)] ⟨rfl,rfl,trivial⟩ func113 rfl ?_ ?_
 · refine dX 3 rfl ?_;refine RW.dO (d:=6) (b':=true) rfl (decide_eq_true (by omega)) ?_;refine dX 4 rfl ?_;refine RW.done rfl ?_;exact⟨rfl,au rfl (by simp;omega),rfl,rfl,trivial⟩
 · refine aA rfl rfl (fun _=>?_) (fun hc=>absurd hc (by decide));refine ck func113 1 [0,2,3] rfl ?_;refine cg func113 rfl rfl ?_;exact⟨_,rfl,rfl,rfl⟩
theorem EI (r:Int) (h0:0<=r) (h1:r<128):af Tryz.prog 52 #[.int .i32 r] h (bg fun v h'=>v= .string (Utf8.encode r)/\h'=h):=by
 refine af.of func52 rfl rfl ?_;refine ck func52 1 [0,2] rfl ?_;refine aB rfl ?_;refine dY func52 1 rfl ?_;refine xo rfl (ay.call (vs:=[_]) func113 rfl H.Oq rfl (af.cD (Bu r h0 h1))) ?_;rintro _ h1 ⟨rfl,hh1⟩;refine cH 1 [0,2,5] rfl ?_;subst hh1;refine aA rfl rfl (fun hc=>absurd hc (by decide)) (fun _=>?_);refine aM rfl ?_;refine dY func52 1 rfl ?_;refine xp rfl (ak.MU underlying21 underlying9 rfl) ?_;refine cH 1 [0,2,5] rfl ?_;refine cg func52 rfl rfl ?_;exact⟨_,rfl,rfl,rfl⟩
theorem JF {cs:List Value}(c:Cm) (hc:cs=FQ c):Fa (h.push (.cells cs.toArray 28 (0,0))) (.slice (some ⟨h.size,0,none⟩) 1 1) c:=⟨h.size,rfl,by subst hc;unfold aD;simp⟩
theorem qE (a b n:Int):af Tryz.prog 53 #[.int .i64 a,.int .i64 b,.int .i64 n] h (bg fun v h'=>Fa h' v ⟨a,b,n,[],false⟩/\an h h'):=by
 refine af.of func53 rfl rfl ?_;refine ck func53 1 [0,1,2,6] rfl ?_;refine dY func53 3 rfl ?_;refine xp rfl (az (H.ri _ _ _) rfl) ?_;refine xo rfl (ay.cz (cs:=[_,_,_,_,_]) underlying72 H.OJ rfl rfl (by decide)) ?_;rintro _ h1 ⟨rfl,hh1⟩;have e1:an h h1:=by rw[hh1];exact Ext.push _ _ _
 refine cH 1 [0,1,2,6] rfl ?_;refine cg func53 rfl rfl ?_;exact⟨_,rfl,by rw[hh1];exact JF ⟨a,b,n,[],false⟩ rfl,e1⟩
theorem EH:af Tryz.prog 55 #[.int .i32 122,.int .i64 1] h (bg fun v h'=>Fa h' v ⟨12,0,1,[],false⟩/\an h h'):=by
 refine af.of func55 rfl rfl ?_;refine ck func55 1 [0,1,4] rfl ?_;refine aB rfl ?_;refine ck func55 1 [0,1,4,5] rfl ?_;refine G.block rfl rfl ?_;refine ck func55 2 [0,1,4,5,6] rfl ?_;refine aA rfl rfl (fun hc=>absurd hc (by decide)) (fun _=>?_);refine ck func55 2 [0,1,4,5,6,9] rfl ?_;refine aA rfl rfl (fun hc=>absurd hc (by decide)) (fun _=>?_);refine ck func55 2 [0,1,4,5,6,9,12] rfl ?_;refine aA rfl rfl (fun hc=>absurd hc (by decide)) (fun _=>?_);refine ck func55 2 [0,1,4,5,6,9,12,16] rfl ?_;refine aA rfl rfl (fun hc=>absurd hc (by decide)) (fun _=>?_);refine ck func55 2 [0,1,4,5,6,9,12,16,20] rfl ?_;refine aA rfl rfl (fun hc=>absurd hc (by decide)) (fun _=>?_);refine ck func55 2 [0,1,4,5,6,9,12,16,20,23] rfl ?_;refine aA rfl rfl (fun hc=>absurd hc (by decide)) (fun _=>?_);refine ck func55 2 [0,1,4,5,6,9,12,16,20,23,26] rfl ?_;refine aA rfl rfl (fun hc=>absurd hc (by decide)) (fun _=>?_);refine ck func55 2 [0,1,4,5,6,9,12,16,20,23,26,30] rfl ?_;refine aA rfl rfl (fun hc=>absurd hc (by decide)) (fun _=>?_);refine ck func55 2 [0,1,4,5,6,9,12,16,20,23,26,30,33] rfl ?_;refine aA rfl rfl (fun hc=>absurd hc (by decide)) (fun _=>?_);refine ck func55 2 [0,1,4,5,6,9,12,16,20,23,26,30,33,36] rfl ?_;refine aA rfl rfl (fun hc=>absurd hc (by decide)) (fun _=>?_);refine ck func55 2 [0,1,4,5,6,9,12,16,20,23,26,30,33,36,40] rfl ?_;refine aA rfl rfl (fun hc=>absurd hc (by decide)) (fun _=>?_);refine ck func55 2 [0,1,4,5,6,9,12,16,20,23,26,30,33,36,40,44] rfl ?_;refine aA rfl rfl (fun hc=>absurd hc (by decide)) (fun _=>?_);refine ck func55 2 [0,1,4,5,6,9,12,16,20,23,26,30,33,36,40,44,47] rfl ?_;refine aA rfl rfl (fun _=>?_) (fun hc=>absurd hc (by decide));refine dY func55 1 rfl ?_;refine xo rfl (ay.call (vs:=[_,_,_]) func53 rfl H.MM rfl (af.cD (qE 12 0 1))) ?_;rintro v1 h1 ⟨k1,e1⟩;refine cH 1 [0,1,4,5,6,9,12,16,20,23,26,30,33,36,40,44,47] rfl ?_;refine cg func55 rfl rfl ?_;exact⟨_,rfl,k1,e1⟩
theorem Hx:af Tryz.prog 56 #[.int .i32 122,.int .i64 1] h (bg fun v h'=>Fa h' v ⟨13,0,1,[],false⟩/\an h h'):=by
 refine af.of func56 rfl rfl ?_;refine ck func56 1 [0,1,4] rfl ?_;refine aB rfl ?_;refine ck func56 1 [0,1,4,5] rfl ?_;refine G.block rfl rfl ?_;refine ck func56 2 [0,1,4,5,6] rfl ?_;refine aA rfl rfl (fun hc=>absurd hc (by decide)) (fun _=>?_);refine ck func56 2 [0,1,4,5,6,10] rfl ?_;refine aA rfl rfl (fun hc=>absurd hc (by decide)) (fun _=>?_);refine ck func56 2 [0,1,4,5,6,10,14] rfl ?_;refine aA rfl rfl (fun hc=>absurd hc (by decide)) (fun _=>?_);refine ck func56 2 [0,1,4,5,6,10,14,18] rfl ?_;refine aA rfl rfl (fun hc=>absurd hc (by decide)) (fun _=>?_);refine ck func56 2 [0,1,4,5,6,10,14,18,21] rfl ?_;refine aA rfl rfl (fun hc=>absurd hc (by decide)) (fun _=>?_);refine ck func56 2 [0,1,4,5,6,10,14,18,21,24] rfl ?_;refine aA rfl rfl (fun hc=>absurd hc (by decide)) (fun _=>?_);refine ck func56 2 [0,1,4,5,6,10,14,18,21,24,27] rfl ?_;refine aA rfl rfl (fun hc=>absurd hc (by decide)) (fun _=>?_);refine ck func56 2 [0,1,4,5,6,10,14,18,21,24,27,30] rfl ?_;refine aA rfl rfl (fun _=>?_) (fun hc=>absurd hc (by decide));refine dY func56 1 rfl ?_;refine xo rfl (ay.call (vs:=[_,_,_]) func53 rfl H.MM rfl (af.cD (qE 13 0 1))) ?_;rintro v1 h1 ⟨k1,e1⟩;refine cH 1 [0,1,4,5,6,10,14,18,21,24,27,30] rfl ?_;refine cg func56 rfl rfl ?_;exact⟨_,rfl,k1,e1⟩
theorem D8 (r:Int) (hr0:0<=r) (hr1:r<128) (c:Cm) (hc:c.kind=2/\c.way=0/\c.n=1/\c.incl=false/\Utf8.encode r=bs c.text):af Tryz.prog 54 #[Je 1 r,.int .i64 1] h (bg fun v h'=>(∃w,v= .tuple #[w,.bool true]/\Fa h' w c)/\an h h'):=by
 obtain⟨q1,q2,q3,q4,q5⟩:=hc;refine af.of func54 rfl rfl ?_;refine xr func54 rfl ?_;refine xo rfl (ay.kH rfl) ?_;rintro _ h1 ⟨rfl,k1,e1,z1⟩;have k1:aD h1 h.size 35 (Bd 1 r):=k1;refine cH 2 [0,1,2,4,5] rfl ?_;refine aB rfl ?_;refine xr func54 rfl ?_;refine xp rfl (aa (off:=0) underlying35 rfl rfl H.cq rfl) ?_;refine xp rfl (aq H.gV rfl (k1.cell (i:=0) rfl)) ?_;refine xd [0,1,2,4,5,7] rfl ?_;refine G.block rfl rfl ?_;refine ck func54 2 [0,1,2,4,5,7,8] rfl ?_;refine aA rfl rfl (fun _=>?_) (fun hc=>absurd hc (by decide));refine dY func54 1 rfl ?_;refine xp rfl (aa (off:=1) underlying35 rfl rfl H.Ic rfl) ?_;refine xp rfl (aq H.JZ rfl (k1.cell (i:=1) rfl)) ?_;refine xo rfl (ay.call (vs:=[_]) func52 rfl H.PU rfl (af.cD (EI r hr0 hr1))) ?_;rintro _ h2 ⟨rfl,hh2⟩;subst hh2;refine xp rfl (az (H.ET _ _ _) rfl) ?_;refine xo rfl (ay.cz (cs:=[_,_,_,_,_]) underlying72 H.OJ rfl rfl (by decide)) ?_;rintro _ h3 ⟨rfl,hh3⟩;have e3:an h2 h3:=by rw[hh3];exact Ext.push _ _ _
 refine cH 2 [0,1,2,4,5,7,8] rfl ?_;refine cg func54 rfl rfl ?_;exact⟨_,rfl,⟨_,rfl,by rw[hh3];exact JF c (by unfold FQ;rw[q1,q2,q3,q4,<-q5])⟩,e1.trans e3⟩
theorem Cb (r:Int):af Tryz.prog 54 #[Je 2 r,.int .i64 1] h (bg fun v h'=>(∃w,v= .tuple #[w,.bool true]/\Fa h' w ⟨14,0,1,[],false⟩)/\an h h'):=by
 refine af.of func54 rfl rfl ?_;refine xr func54 rfl ?_;refine xo rfl (ay.kH rfl) ?_;rintro _ h1 ⟨rfl,k1,e1,z1⟩;have k1:aD h1 h.size 35 (Bd 2 r):=k1;refine cH 2 [0,1,2,4,5] rfl ?_;refine aB rfl ?_;refine xr func54 rfl ?_;refine xp rfl (aa (off:=0) underlying35 rfl rfl H.cq rfl) ?_;refine xp rfl (aq H.gV rfl (k1.cell (i:=0) rfl)) ?_;refine xd [0,1,2,4,5,7] rfl ?_;refine G.block rfl rfl ?_;refine ck func54 2 [0,1,2,4,5,7,8] rfl ?_;refine aA rfl rfl (fun hc=>absurd hc (by decide)) (fun _=>?_);refine ck func54 2 [0,1,2,4,5,7,8,16] rfl ?_;refine aA rfl rfl (fun hc=>absurd hc (by decide)) (fun _=>?_);refine ck func54 2 [0,1,2,4,5,7,8,16,22] rfl ?_;refine aA rfl rfl (fun hc=>absurd hc (by decide)) (fun _=>?_);refine ck func54 2 [0,1,2,4,5,7,8,16,22,27] rfl ?_;refine aA rfl rfl (fun _=>?_) (fun hc=>absurd hc (by decide));refine xr func54 rfl ?_;refine xo rfl (ay.call (vs:=[_,_,_]) func53 rfl H.MM rfl (af.cD (qE 14 0 1))) ?_;rintro v2 h2 ⟨k2,e2⟩;refine cH 2 [0,1,2,4,5,7,8,16,22,27] rfl ?_;refine cg func54 rfl rfl ?_;exact⟨_,rfl,⟨_,rfl,k2⟩,e1.trans e2⟩
theorem IE (k r:Int) (hk:k=6\/k=7):af Tryz.prog 54 #[Je k r,.int .i64 1] h (bg fun v h'=>v= .tuple #[.slice none 0 0,.bool false]/\an h h'):=by
 refine af.of func54 rfl rfl ?_;refine xr func54 rfl ?_;refine xo rfl (ay.kH rfl) ?_;rintro _ h1 ⟨rfl,k1,e1,z1⟩;have k1:aD h1 h.size 35 (Bd k r):=k1;refine cH 2 [0,1,2,4,5] rfl ?_;refine aB rfl ?_;refine xr func54 rfl ?_;refine xp rfl (aa (off:=0) underlying35 rfl rfl H.cq rfl) ?_;refine xp rfl (aq H.gV rfl (k1.cell (i:=0) rfl)) ?_;refine xd [0,1,2,4,5,7] rfl ?_;refine G.block rfl rfl ?_;refine ck func54 2 [0,1,2,4,5,7,8] rfl ?_;refine aA rfl rfl (fun hc=>absurd hc (by simp;omega)) (fun _=>?_);refine ck func54 2 [0,1,2,4,5,7,8,16] rfl ?_;refine aA rfl rfl (fun hc=>absurd hc (by simp;omega)) (fun _=>?_);refine ck func54 2 [0,1,2,4,5,7,8,16,22] rfl ?_;refine aA rfl rfl (fun hc=>absurd hc (by simp;omega)) (fun _=>?_);refine ck func54 2 [0,1,2,4,5,7,8,16,22,27] rfl ?_;refine aA rfl rfl (fun hc=>absurd hc (by simp;omega)) (fun _=>?_);refine ck func54 2 [0,1,2,4,5,7,8,16,22,27,30] rfl ?_;refine aA rfl rfl (fun hc=>absurd hc (by simp;omega)) (fun _=>?_);refine ck func54 2 [0,1,2,4,5,7,8,16,22,27,30,34] rfl ?_;refine aA rfl rfl (fun hc=>absurd hc (by simp;omega)) (fun _=>?_);refine ck func54 2 [0,1,2,4,5,7,8,16,22,27,30,34,38] rfl ?_;refine aA rfl rfl (fun hc=>absurd hc (by simp;omega)) (fun _=>?_);refine ck func54 2 [0,1,2,4,5,7,8,16,22,27,30,34,38,42] rfl ?_;refine aA rfl rfl (fun hc=>absurd hc (by simp;omega)) (fun _=>?_);refine ck func54 2 [0,1,2,4,5,7,8,16,22,27,30,34,38,42,46] rfl ?_;refine aA rfl rfl (fun hc=>absurd hc (by simp;omega)) (fun _=>?_);refine ck func54 2 [0,1,2,4,5,7,8,16,22,27,30,34,38,42,46,49] rfl ?_;refine aA rfl rfl (fun hc=>absurd hc (by simp;omega)) (fun _=>?_);refine ck func54 2 [0,1,2,4,5,7,8,16,22,27,30,34,38,42,46,49,52] rfl ?_;refine aA rfl rfl (fun hc=>absurd hc (by simp;omega)) (fun _=>?_);refine ck func54 2 [0,1,2,4,5,7,8,16,22,27,30,34,38,42,46,49,52,55] rfl ?_;refine aA rfl rfl (fun hc=>absurd hc (by simp;omega)) (fun _=>?_);refine aB rfl ?_;refine ck func54 2 [0,1,2,4,5,7,8,16,22,27,30,34,38,42,46,49,52,55,58] rfl ?_;refine aA rfl rfl (fun hc=>absurd hc (by simp;omega)) (fun _=>?_);refine G.eE func54 rfl ?_;refine cH 2 [0,1,2,4,5,7,8,16,22,27,30,34,38,42,46,49,52,55,58] rfl ?_;refine aA rfl rfl (fun hc=>absurd hc (by simp;omega)) (fun _=>?_);refine aM rfl ?_;refine G.cn ?_;refine ck func54 2 [0,1,2,4,5,7,8,16,22,27,30,34,38,42,46,49,52,55,58] rfl ?_;refine cg func54 rfl rfl ?_;exact⟨_,rfl,rfl,e1⟩
def OH:Value:=.agg #[.int .i64 0,.bool false]
theorem EC (k r:Int) (c:Cm) (hk:vh k r c):af Tryz.prog 27 #[OH,Je k r] h (bg fun v h'=>(∃w,v= .tuple #[OH,w]/\Fa h' w c)/\an h h'):=by
 have hkk:k=1\/k=2\/k=6\/k=7:=by rcases hk with ⟨q,_⟩|⟨q,_⟩|⟨q,_⟩|⟨q,_⟩<;>omega
 have hkr:k=7->r=122:=by rcases hk with ⟨q,_⟩|⟨q,_⟩|⟨q,_⟩|⟨q,q2,_⟩<;>omega
 refine af.of func27 rfl rfl ?_;refine xr func27 rfl ?_;refine xo rfl (ay.kH rfl) ?_;rintro _ h1 ⟨rfl,k1,e1,z1⟩;refine xo rfl (ay.kH rfl) ?_;rintro _ h2 ⟨rfl,k2,e2,z2⟩;refine xo rfl (ay.cS H.Pm) ?_;rintro _ h3 ⟨rfl,k3,e3,z3⟩;have k1:aD h3 h.size 53 [.int .i64 0,.bool false]:=(k1.aj e2).aj e3;have k2:aD h3 h1.size 35 (Bd k r):=k2.aj e3;have e03:=(e1.trans e2).trans e3;have e12:h.size<=h2.size:=(e1.trans e2).size;refine cH 1 [0,1,2,3,4,5] rfl ?_;refine aB rfl ?_;refine aB rfl ?_;refine G.fF [(20,.bool false)] [(0,_),(1,_),(2,_),(3,_),(4,_),(5,_)] ⟨rfl,rfl,rfl,rfl,rfl,rfl,trivial⟩ func27 rfl ?_ ?_
 · refine xp rfl (aa (off:=0) underlying35 rfl rfl H.cq rfl) ?_;refine xp rfl (aq H.gV rfl (k2.cell (i:=0) rfl)) ?_;refine dX 2 rfl ?_;refine RW.split (d:=11) rfl (fun g1=>?_) (fun g1=>?_)
   · refine xp rfl (aa (off:=1) underlying35 rfl rfl H.Ic rfl) ?_;refine xp rfl (aq H.JZ rfl (k2.cell (i:=1) rfl)) ?_;refine dX 3 rfl ?_;refine RW.split (d:=16) rfl (fun g2=>?_) (fun g2=>?_)
     · refine xp rfl (aa (off:=1) underlying35 rfl rfl H.Ic rfl) ?_;refine xp rfl (aq H.JZ rfl (k2.cell (i:=1) rfl)) ?_;refine dX 2 rfl ?_;refine RW.done rfl ?_;exact⟨rfl,au rfl (by simp at g1 ⊢;omega),rfl,rfl,rfl,rfl,rfl,rfl,trivial⟩
     · refine dX 4 rfl ?_;refine RW.done rfl ?_;exact⟨rfl,au rfl (rfl),rfl,rfl,rfl,rfl,rfl,rfl,trivial⟩
   · refine dX 9 rfl ?_;refine RW.done rfl ?_;exact⟨rfl,au rfl (rfl),rfl,rfl,rfl,rfl,rfl,rfl,trivial⟩
 · refine aA rfl rfl (fun hc=>absurd hc (by decide)) (fun _=>?_);refine aM rfl ?_;refine aB rfl ?_;refine xr func27 rfl ?_;refine xp rfl (aa (off:=0) underlying35 rfl rfl H.cq rfl) ?_;refine xp rfl (aq H.gV rfl (k2.cell (i:=0) rfl)) ?_;refine cH 1 [0,1,2,3,4,5,20,35] rfl ?_;refine aA rfl rfl (fun hc=>absurd hc (by simp;omega)) (fun _=>?_);refine aM rfl ?_;refine ck func27 1 [0,1,2,3,4,5,6,20,35] rfl ?_;refine aB rfl ?_;refine xr func27 rfl ?_;refine xp rfl (aa (off:=1) underlying53 rfl rfl H.Kw rfl) ?_;refine xp rfl (aq H.QC rfl (k1.cell (i:=1) rfl)) ?_;refine xd [0,1,2,3,4,5,6,20,35,38] rfl ?_;refine aA rfl rfl (fun hc=>absurd hc (by decide)) (fun _=>?_)
   rcases hk with ⟨rfl,q1,q2,q3⟩|hk
   · refine aM rfl ?_;refine xr func27 rfl ?_;refine xp rfl (ak.aF H.Dj H.vM rfl k2.row (by first|rfl|(simp;done)|(simp;omega))) ?_;refine dX 1 rfl ?_;refine xo rfl (ay.call (vs:=[_,_]) func54 rfl H.ML rfl (af.cD (D8 r q1 q2 c q3))) ?_;rintro _ h4 ⟨⟨w,rfl,kw⟩,e4⟩;obtain⟨bw,rfl,kb⟩:=kw;refine cH 5 [0,1,2,3,4,5,6,7,20,35,38] rfl ?_;refine aB rfl ?_;refine G.block rfl rfl ?_;refine ck func27 2 [0,1,2,3,4,5,6,7,20,35,38,47] rfl ?_;refine aA rfl rfl (fun _=>?_) (fun hc=>absurd hc (by decide));refine aM rfl ?_;refine G.cn ?_;refine xr func27 rfl ?_;refine xp rfl (az (H.FV ) rfl) ?_;refine dX 1 rfl ?_;refine RW.gq rfl rfl rfl (ay.aG H.uX rfl rfl (k3.aj e4) (by first|rfl|(simp;done)|(simp;omega)) (by first|decide|exact of_decide_eq_true rfl|(simp;done)|(simp;omega)) (by first|decide|simp[Value.oneCell'])) ?_;rintro _ h5 ⟨rfl,k5,x5,z5⟩;refine cH 1 [0,1,2,3,4,5,6,7,20,35,38,47] rfl ?_;refine G.tC func27 rfl (.cons (cZ.qC H.JX H.uX rfl (k5.row) (by first|rfl|(simp;done)|(simp;omega))) (.cons (cZ.tmp rfl) (.nil))) ?_;exact⟨_,rfl,⟨_,rfl,bw,rfl,kb.ext x5 (fun q=>kb.ty.ne ((k3.aj e4).ty) (by decide) q)⟩,(an.only (e03.trans e4) x5 e12)⟩
   · rcases hk with ⟨rfl,rfl⟩|hk
     · refine aM rfl ?_;refine xr func27 rfl ?_;refine xp rfl (ak.aF H.Dj H.vM rfl k2.row (by first|rfl|(simp;done)|(simp;omega))) ?_;refine dX 1 rfl ?_;refine xo rfl (ay.call (vs:=[_,_]) func54 rfl H.ML rfl (af.cD (Cb r))) ?_;rintro _ h4 ⟨⟨w,rfl,kw⟩,e4⟩;obtain⟨bw,rfl,kb⟩:=kw;refine cH 5 [0,1,2,3,4,5,6,7,20,35,38] rfl ?_;refine aB rfl ?_;refine G.block rfl rfl ?_;refine ck func27 2 [0,1,2,3,4,5,6,7,20,35,38,47] rfl ?_;refine aA rfl rfl (fun _=>?_) (fun hc=>absurd hc (by decide));refine aM rfl ?_;refine G.cn ?_;refine xr func27 rfl ?_;refine xp rfl (az (H.FV ) rfl) ?_;refine dX 1 rfl ?_;refine RW.gq rfl rfl rfl (ay.aG H.uX rfl rfl (k3.aj e4) (by first|rfl|(simp;done)|(simp;omega)) (by first|decide|exact of_decide_eq_true rfl|(simp;done)|(simp;omega)) (by first|decide|simp[Value.oneCell'])) ?_;rintro _ h5 ⟨rfl,k5,x5,z5⟩;refine cH 1 [0,1,2,3,4,5,6,7,20,35,38,47] rfl ?_;refine G.tC func27 rfl (.cons (cZ.qC H.JX H.uX rfl (k5.row) (by first|rfl|(simp;done)|(simp;omega))) (.cons (cZ.tmp rfl) (.nil))) ?_;exact⟨_,rfl,⟨_,rfl,bw,rfl,kb.ext x5 (fun q=>kb.ty.ne ((k3.aj e4).ty) (by decide) q)⟩,(an.only (e03.trans e4) x5 e12)⟩
     · refine aM rfl ?_;refine xr func27 rfl ?_;refine xp rfl (ak.aF H.Dj H.vM rfl k2.row (by first|rfl|(simp;done)|(simp;omega))) ?_;refine dX 1 rfl ?_;refine xo rfl (ay.call (vs:=[_,_]) func54 rfl H.ML rfl (af.cD (IE k r (by rcases hk with q|q<;>omega)))) ?_;rintro _ h4 ⟨rfl,e4⟩;refine cH 5 [0,1,2,3,4,5,6,7,20,35,38] rfl ?_;refine aB rfl ?_;refine G.block rfl rfl ?_;refine ck func27 2 [0,1,2,3,4,5,6,7,20,35,38,47] rfl ?_;refine aA rfl rfl (fun hc=>absurd hc (by decide)) (fun _=>?_);have k24:=k2.aj e4;refine xr func27 rfl ?_;refine xp rfl (aa (off:=0) underlying35 rfl rfl H.cq rfl) ?_;refine xp rfl (aq H.gV rfl (k24.cell (i:=0) rfl)) ?_;refine cH 2 [0,1,2,3,4,5,6,7,20,35,38,47,49] rfl ?_
       rcases hk with ⟨rfl,rfl,rfl⟩|⟨rfl,rfl,rfl⟩
       · refine aA rfl rfl (fun _=>?_) (fun hc=>absurd hc (by decide));refine G.eE func27 rfl ?_;refine xp rfl (aa (off:=1) underlying35 rfl rfl H.Ic rfl) ?_;refine xp rfl (aq H.JZ rfl (k24.cell (i:=1) rfl)) ?_;refine dX 1 rfl ?_;refine xo rfl (ay.call (vs:=[_,_]) func55 rfl H.PT rfl (af.cD (EH))) ?_;rintro w h6 ⟨kw,e6⟩;obtain⟨bw,rfl,kb⟩:=kw;refine cH 1 [0,1,2,3,4,5,6,7,20,35,38,47,49] rfl ?_;refine G.cn ?_;refine xr func27 rfl ?_;refine xp rfl (az (H.FV ) rfl) ?_;refine dX 1 rfl ?_;refine RW.gq rfl rfl rfl (ay.aG H.uX rfl rfl ((k3.aj e4).aj e6) (by first|rfl|(simp;done)|(simp;omega)) (by first|decide|exact of_decide_eq_true rfl|(simp;done)|(simp;omega)) (by first|decide|simp[Value.oneCell'])) ?_;rintro _ h5 ⟨rfl,k5,x5,z5⟩;refine cH 1 [0,1,2,3,4,5,6,7,20,35,38,47,49] rfl ?_;refine G.tC func27 rfl (.cons (cZ.qC H.JX H.uX rfl (k5.row) (by first|rfl|(simp;done)|(simp;omega))) (.cons (cZ.tmp rfl) (.nil))) ?_;exact⟨_,rfl,⟨_,rfl,bw,rfl,kb.ext x5 (fun q=>kb.ty.ne (((k3.aj e4).aj e6).ty) (by decide) q)⟩,(an.only ((e03.trans e4).trans e6) x5 e12)⟩
       · refine aA rfl rfl (fun hc=>absurd hc (by decide)) (fun _=>?_);refine xr func27 rfl ?_;refine xp rfl (aa (off:=0) underlying35 rfl rfl H.cq rfl) ?_;refine xp rfl (aq H.gV rfl (k24.cell (i:=0) rfl)) ?_;refine cH 2 [0,1,2,3,4,5,6,7,20,35,38,47,49,57] rfl ?_;refine aA rfl rfl (fun _=>?_) (fun hc=>absurd hc (by decide));refine G.eE func27 rfl ?_;refine xp rfl (aa (off:=1) underlying35 rfl rfl H.Ic rfl) ?_;refine xp rfl (aq H.JZ rfl (k24.cell (i:=1) rfl)) ?_;refine dX 1 rfl ?_;refine xo rfl (ay.call (vs:=[_,_]) func56 rfl H.PS rfl (af.cD (Hx))) ?_;rintro w h6 ⟨kw,e6⟩;obtain⟨bw,rfl,kb⟩:=kw;refine cH 1 [0,1,2,3,4,5,6,7,20,35,38,47,49,57] rfl ?_;refine G.cn ?_;refine xr func27 rfl ?_;refine xp rfl (az (H.FV ) rfl) ?_;refine dX 1 rfl ?_;refine RW.gq rfl rfl rfl (ay.aG H.uX rfl rfl ((k3.aj e4).aj e6) (by first|rfl|(simp;done)|(simp;omega)) (by first|decide|exact of_decide_eq_true rfl|(simp;done)|(simp;omega)) (by first|decide|simp[Value.oneCell'])) ?_;rintro _ h5 ⟨rfl,k5,x5,z5⟩;refine cH 1 [0,1,2,3,4,5,6,7,20,35,38,47,49,57] rfl ?_;refine G.tC func27 rfl (.cons (cZ.qC H.JX H.uX rfl (k5.row) (by first|rfl|(simp;done)|(simp;omega))) (.cons (cZ.tmp rfl) (.nil))) ?_;exact⟨_,rfl,⟨_,rfl,bw,rfl,kb.ext x5 (fun q=>kb.ty.ne (((k3.aj e4).aj e6).ty) (by decide) q)⟩,(an.only ((e03.trans e4).trans e6) x5 e12)⟩
theorem gw.self {O:Nat->Prop}{b:Nat}{n:Int}(k:gw O h b s n):gw (fun y=>y=b\/O y) h b s n:=by
 obtain⟨h0,lb,tv,sv,pv,kG,kL,k3,hb0,kd,ht,hs,hp⟩:=k;have m:Mv (fun x=>x=b\/O x) (fun x=>x=b\/(x=b\/O x)) h h:=Mv.cE (Ext.refl (fun _=>False) h) fun y _ hn=>⟨fun q=>q,fun q=>q.elim (fun q=>hn (.inl q)) hn⟩
 exact⟨h0,lb,tv,sv,pv,kG,kL.mv m,k3,⟨hb0.1,fun y q=>q.elim (fun q=>q▸hb0.1) (hb0.2 y)⟩,kd,ht.mv m,hs.mv m,hp.mv m⟩
theorem xO (hg:lf h):af Tryz.prog 6 #[] h (bg fun r h'=>(∃eb:Nat,r= .pointer (some ⟨eb,0,none⟩)/\eC Ck h.size h' eb kW)/\an h h'):=by
 refine af.of func6 rfl rfl ?_;refine ck func6 1 [0] rfl ?_;refine xr func6 rfl ?_;refine xo rfl (ay.call (vs:=[_]) func16 rfl H.P8 rfl (af.cD (D7 (Z:=Ck) (fun _ q=>q.elim)))) ?_;rintro _ h1 ⟨⟨tv,rfl,kt⟩,e1⟩;obtain⟨bt,vt,lt,rfl,_⟩:=id kt;obtain⟨⟨lim,hl,hs⟩,hten,hru,_,_⟩:=(hg.aj e1)
 refine cH 5 [0,1] rfl ?_;refine xr func6 rfl ?_;refine xp rfl (az (H.Nf _) rfl) ?_;refine dX 2 rfl ?_;refine xo rfl (ay.call (vs:=[_,_]) func17 rfl H.P7 rfl (af.cD (DH kt 0))) ?_;rintro _ h2 ⟨⟨ub,rfl,hub,ku⟩,e2⟩;obtain⟨⟨lim,hl,hs⟩,hten,hru,_,_⟩:=((hg.aj e1).aj e2)
 refine xo rfl (ay.call (vs:=[]) func19 rfl H.P5 rfl (af.cD (wC hs hl hten hru))) ?_;rintro lp h3 ⟨kL,e3⟩;have z1:=e1.size;have z2:=e2.size;have z3:=e3.size;have e03:=(e1.trans e2).trans e3;have hnew:=Bo (h00:=h) (h:=h3) (Z:=fun y=>h.size<=y/\y<h2.size) hg e03 (fun y q=>⟨q.1,by omega⟩) (kL.mv (Mv.cE (Ext.refl (fun _=>False) h3) fun y _ q=>⟨fun q=>q,fun q2=>q q2.2⟩)) [] (by decide);obtain⟨lb,vm,rfl,_⟩:=id kL;refine xo rfl (ay.call (vs:=[_,_]) func18 rfl H.P6 rfl (af.cD (hnew))) ?_;rintro _ h4 ⟨⟨db,rfl,hdb,kd⟩,e4⟩;refine xp rfl (az (H.BC _ _ _ _ _ _ _ _ _ _ _ _ _ _ _ _ _ _ _ _ _ _) rfl) ?_;refine xo rfl (ay.kH rfl) ?_;rintro _ h5 ⟨rfl,k5,e5,z5⟩;refine cH 1 [0,1] rfl ?_;refine cg func6 rfl rfl ?_;have kub:ub<h2.size:=by obtain⟨_,kk,_⟩:=ku.blk;exact kk.lt
 have z4:=e4.size;have kdl:db<h4.size:=by obtain⟨_,_,_,_,_,_,_,_,_,kk,_⟩:=id kd;exact kk.lt
 have k5:aD h5 h4.size 57 (La kW.s (.slice none 0 0) (.slice none 0 0) (.slice none 0 0) (.slice none 0 0) (.pointer (some ⟨bt,0,none⟩)) ub db):=k5;refine⟨_,rfl,⟨h4.size,rfl,db,ub,.slice none 0 0,.slice none 0 0,_,_,_,_,_,0,k5,(((kt.mv (Mv.D9 e2)).mv (Mv.D9 e3)).mv (Mv.D9 e4)).mv (Mv.D9 e5),((ku.aj e3).aj e4).aj e5,kd.self.grow e5 (fun y q=>?_),⟨bz.nil _ _ _,bz.nil _ _ _,bz.nil _ _ _,bz.nil _ _ _⟩,fun y q=>?_,fun _ q=>q.elim⟩,(e03.trans e4).trans e5⟩
 · rcases q with q|q|(q|q|q)|q
   · exact .inr (by omega)
   · exact .inl (.inl q)
   · exact .inl (.inr ⟨by omega,by omega⟩)
   · cases q
   · cases q
   · exact q.elim
 · rcases q with q|q|(q|q|q)|q
   · omega
   · omega
   · omega
   · cases q
   · cases q
   · exact q.elim
theorem Q7 (c:Cm):∀v∈FQ c,v.oneCell'=true:=by
 intro v hv;simp only[FQ,List.mem_cons,List.not_mem_nil,or_false] at hv
 rcases hv with rfl|rfl|rfl|rfl|rfl<;>rfl
theorem mV {e':iP}(k:eC Z base h eb e) (hm:e.s.mode=0){kk r:Int}(hk:vh kk r c) (hdo:∀g,eC Z base g eb e->af Tryz.prog 7 #[.pointer (some ⟨eb,0,none⟩),HK c] g (bg fun _ h'=>eC Z base h' eb e'/\Ext (nP base g) g h')) :
 af Tryz.prog 10 #[.pointer (some ⟨eb,0,none⟩),Je kk r] h (bg fun _ h'=>eC Z base h' eb e'/\Ext (nP base h) h h'):=by
 obtain⟨db,ub,wv,gv,tv,rv,hv,lv,fv,m,K⟩:=k;refine af.of func10 rfl rfl ?_;refine xr func10 rfl ?_;refine xo rfl (ay.kH rfl) ?_;rintro _ h1 ⟨rfl,k1,e1,z1⟩;refine xd [0,1,3] rfl ?_;refine aB rfl ?_;refine dY func10 1 rfl ?_;refine xo rfl (ay.call (vs:=[_]) func20 rfl H.IT rfl (af.cD (oK (K.aj e1).blk))) ?_;rintro _ h2 ⟨rfl,hh2⟩;refine xd [0,1,3,8] rfl ?_;subst hh2;refine aA rfl rfl (fun hc=>absurd hc (by decide)) (fun _=>?_);have K2:=K.aj e1;have kb2:=K2.blk;have k1:aD h2 h.size 35 (Bd kk r):=k1;have hel:=K.blk.lt;refine aM rfl ?_;refine ck func10 1 [0,1,3,4,8] rfl ?_;refine aB rfl ?_;refine dY func10 2 rfl ?_;refine xp rfl (aa (off:=0) underlying57 rfl rfl H.cv rfl) ?_;refine xp rfl (aa (off:=2) underlying31 rfl rfl H.cq rfl) ?_;refine xp rfl (aq H.gV rfl (kb2.cell (i:=2) rfl)) ?_;refine xd [0,1,3,4,8,13] rfl ?_;refine G.block rfl rfl ?_;refine ck func10 2 [0,1,3,4,8,13,31] rfl ?_;refine aA rfl rfl (fun hc=>absurd hc (by simp;omega)) (fun _=>?_);refine ck func10 2 [0,1,3,4,8,13,31,35] rfl ?_;refine aA rfl rfl (fun _=>?_) (fun hc=>absurd hc (by simp;omega));have hmp:=EC (h:=h2) kk r c hk;have hMe:¬Array.size h2<=eb:=by omega
 have hM1:¬Array.size h2<=h.size:=by omega
 have krow:Lw.rowAt h2 eb (0+22) [.int .i64 0,.bool false]:=fun j v hv=>by
  match j,hv with
  | 0,hv=>cases hv;exact kb2.cell (i:=22) rfl
  | 1,hv=>cases hv;exact kb2.cell (i:=23) rfl
 refine cG (fun b=>Array.size h2<=b) (fun i=>Nat.blt i 12) (sz:=14) (listed:= #[false,false,false,false,false,false,false,false,false,false,false,false,false,false]) func10 H.mixed rfl rfl rfl ?_;refine aO 0 1 (by kernel_rfl) rfl ?_;refine aO 1 3 (by kernel_rfl) rfl ?_;refine aO 2 7 (by kernel_rfl) rfl ?_;refine b9 3 15 (by kernel_rfl) rfl (fun h' e=>aa (off:=22) underlying57 rfl rfl H.uX rfl) ?_;refine b9 4 31 (by kernel_rfl) rfl (fun h' e=>ak.aF H.JX H.uX rfl (e.rowAt hMe krow) (by first|rfl|(simp;done)|(simp;omega))) ?_;refine b9 5 63 (by kernel_rfl) rfl (fun h' e=>ak.aF H.Dj H.vM rfl (e.rowAt hM1 k1.row) (by first|rfl|(simp;done)|(simp;omega))) ?_;refine kf 6 127 (by kernel_rfl) rfl (ay.call (vs:=[_,_]) func27 rfl H.P1 rfl (af.cD (hmp))) ?_;rintro _ h4 ⟨⟨_,rfl,bw,rfl,kw⟩,e4⟩;refine⟨fun _=>e4.of,?_⟩;refine aO 7 255 (by kernel_rfl) rfl ?_;refine aO 8 511 (by kernel_rfl) rfl ?_;refine aO 10 1535 (by kernel_rfl) rfl ?_;refine b9 11 3583 (by kernel_rfl) rfl (fun h' e=>aa (off:=22) underlying57 rfl rfl H.uX rfl) ?_;refine RD.nT 9 (listed':= #[true,true,true,true,true,true,true,true,true,true,true,true,false,false]) rfl (by kernel_rfl) (by kernel_rfl) (by kernel_rfl) rfl rfl rfl (fun _=>ak.extract rfl rfl) rfl ?_;refine rD 12 8191 (by kernel_rfl) rfl (ay.aG H.uX rfl rfl (kb2.aj e4) (by first|rfl|(simp;done)|(simp;omega)) (by first|decide|exact of_decide_eq_true rfl|(simp;done)|(simp;omega)) (by first|decide|simp[Value.oneCell'])) ?_;rintro _ h5 ⟨rfl,k5,x5,z5⟩;refine⟨fun hk=>(nomatch hk),?_⟩;have k5:aD h5 eb 57 (La e.s rv hv lv fv tv ub db):=k5;have K5:eC Z base h5 eb e:=⟨db,ub,wv,gv,tv,rv,hv,lv,fv,m,(K2.aj e4).cells k5 x5 rfl rfl rfl rfl rfl⟩
 have kw5:aD h5 bw 28 (FQ c):=kw.ext x5 (fun q=>kw.ty.ne (kb2.aj e4).ty (by decide) q);have x05:Ext (nP base h) h h5:=(an.of (e1.trans e4)).trans (x5.mono fun y _ q=>K.ty y (.inl q));refine aO 13 16383 (by kernel_rfl) rfl ?_;refine RD.done (by kernel_rfl) ?_;refine xu [0,1,3,4,8,13,31,35] rfl ?_;refine G.cn ?_;refine dY func10 1 rfl ?_;refine xp rfl (ak.cP underlying72 rfl) ?_;refine cH 1 [0,1,3,4,8,13,31,35,49,50,51] rfl ?_;refine G.block rfl rfl ?_;refine gj (σ:=Nat) (fun i=>[(0,.pointer (some ⟨eb,0,none⟩)),(49,.slice (some ⟨bw,0,none⟩) 1 1),(50,.int .i64 1),(51,.int .i64 (i:Nat))]) (fun i h'=>Ext (nP base h) h h'/\((i=0/\eC Z base h' eb e/\aD h' bw 28 (FQ c))\/(i=1/\eC Z base h' eb e'))) (fun i=>1-i) (0) rfl ⟨rfl,rfl,rfl,rfl,trivial⟩ ⟨x05,.inl ⟨rfl,K5,kw5⟩⟩ ?_;rintro i h6 ⟨x6,hd⟩ ih;refine ck func10 1 [0,49,50,51,52] rfl ?_;refine aB rfl ?_;refine dz rfl rfl (fun hlt=>?_) (fun hlt=>?_)
 · have hi0:i=0:=by omega
   subst hi0
   obtain⟨K6,kw6⟩:eC Z base h6 eb e/\aD h6 bw 28 (FQ c):=by
    rcases hd with ⟨_,q1,q2⟩|⟨q,_⟩
    · exact⟨q1,q2⟩
    · omega
   refine aM rfl ?_;refine aB rfl ?_;refine G.block rfl rfl ?_;refine xr func10 rfl ?_;refine xp rfl (ak.bK underlying72 H.yN rfl rfl 0 rfl rfl (by omega)) ?_;refine xp rfl (ak.aF H.Dk H.yN rfl kw6.row (by first|rfl|(simp;done)|(simp;omega))) ?_;refine xo rfl (ay.cS H.Po) ?_;rintro _ h7 ⟨rfl,k7,e7,z7⟩;refine RW.gq rfl rfl rfl (ay.aG H.yN rfl rfl k7 (by first|rfl|(simp;done)|(simp;omega)) (by first|decide|exact of_decide_eq_true rfl|(simp;done)|(simp;omega)) ((Q7 c))) ?_;rintro _ h8 ⟨rfl,k8,x8,z8⟩;have e68:an h6 h8:=an.only e7 x8 (Nat.le_refl _);have k8:aD h8 h6.size 28 (FQ c):=k8;refine xd [0,6,49,50,51,52] rfl ?_;refine G.eE func10 rfl ?_;refine eW 1 rfl rfl (ak.aF H.Dk H.yN rfl k8.row (by first|rfl|(simp;done)|(simp;omega))) ?_;refine xo rfl (ay.call (vs:=[_,_]) func7 rfl H.LS rfl (af.cD (hdo h8 (K6.aj e68)))) ?_;rintro _ h9 ⟨K9,x9⟩;refine xd [0,6,49,50,51,52] rfl ?_;refine G.cn ?_;refine G.eE func10 rfl ?_;refine xp rfl (ak.cY rfl rfl ⟨by omega,by omega⟩) ?_;refine cH 1 [0,6,49,50,51,52] rfl ?_;exact ih (0+1) _ _ ⟨rfl,rfl,rfl,rfl,trivial⟩ ⟨nP.trans (x6.trans (an.of e68)) x9,.inr ⟨rfl,K9⟩⟩ (by omega)
 · refine ir rfl rfl ?_;refine G.G7 func10 rfl ?_
   rcases hd with ⟨q,_⟩|⟨_,q⟩
   · omega
   · exact⟨_,rfl,q,x6⟩
theorem yS (k:eC Z base h eb e) (hs:e.s.text.length<=1000000) :
 af Tryz.prog 11 #[.pointer (some ⟨eb,0,none⟩)] h (bg fun r h'=>(∃a c,r= .slice a (aQ e.s.text).1.length c)/\an h h'):=by
 obtain⟨db,ub,wv,gv,tv,rv,hv,lv,fv,m,K⟩:=k;refine af.of func11 rfl rfl ?_;refine ck func11 1 [0,2] rfl ?_;refine aB rfl ?_;refine dY func11 1 rfl ?_;refine xo rfl (ay.call (vs:=[_]) func20 rfl H.IT rfl (af.cD (oK K.blk))) ?_;rintro _ h1 ⟨rfl,hh1⟩;refine xd [0,2,4] rfl ?_;subst hh1;refine aA rfl rfl (fun hc=>absurd hc (by decide)) (fun _=>?_);refine aM rfl ?_;refine dY func11 2 rfl ?_;refine xp rfl (aa (off:=21) underlying57 rfl rfl H.Mu rfl) ?_;refine xp rfl (aq H.Li rfl (K.blk.cell (i:=21) rfl)) ?_;refine xo rfl (ay.call (vs:=[_]) func29 rfl H.P0 rfl (af.cD (Au K.doc hs))) ?_;rintro r2 h2 ⟨k2,e2⟩;refine cH 1 [0,2,4] rfl ?_;refine cg func11 rfl rfl ?_;obtain⟨a,c,rfl,_⟩:=ax.open k2;exact⟨_,rfl,⟨a,c,rfl⟩,e2⟩
def yG (e:iP) (c:Cm) (e':iP):Prop:=∀{base:Nat}{g:ai}{eb:Nat},eC Ck base g eb e->af Tryz.prog 7 #[.pointer (some ⟨eb,0,none⟩),HK c] g (bg fun _ h'=>eC Ck base h' eb e'/\Ext (nP base g) g h')
def NB (s:By) (i:Nat):Prop:=((s.getD i 0).toNat=94\/(s.getD i 0).toNat=33)/\i+1<s.length
instance (s:By) (i:Nat):Decidable (NB s i):=inferInstanceAs (Decidable (_/\_))
def Eb (s:By) (i:Nat):Nat:=if NB s i then i+2 else i+1
def tK (s:By) (i:Nat):Int×Int:=if NB s i then (if (s.getD i 0).toNat=33 then (7,((s.getD (i+1) 0).toNat:Int)) else (6,((s.getD (i+1) 0).toNat:Int))) else if (s.getD i 0).toNat=10 then (2,0) else (1,((s.getD i 0).toNat:Int))
theorem wrap32 (x:UInt8):IntKind.i32.wrap ((x.toNat:Nat):Int)=(x.toNat:Nat):=by
 have:=x.toNat_lt;have h1:(2:Int) ^ 32=4294967296:=by decide
 have h2:(2:Int) ^ 31=2147483648:=by decide
 simp only[IntKind.wrap,IntKind.bits,IntKind.signed,Bool.true_and,decide_eq_true_eq,Nat.reduceSub,h1,h2];split<;>omega
theorem kQ (hg:lf h) (s:By) (hs:s.length<=10) (R:Nat->Prop) (st:Nat->iP) (h0:st 0=kW) (hR0:R 0) (hRl:∀i,R i->i<=s.length) (hst:∀i,R i->i<s.length->R (Eb s i)/\(st i).s.mode=0/\∃c,vh (tK s i).1 (tK s i).2 c/\yG (st i) c (st (Eb s i))) :
 af Tryz.prog 15 #[.string (bs s)] h (bg fun r h'=>(∃eb:Nat,r= .pointer (some ⟨eb,0,none⟩)/\eC Ck h.size h' eb (st s.length))/\an h h'):=by
 have hbs:=aE s;refine af.of func15 rfl rfl ?_;refine ck func15 1 [0,2] rfl ?_;refine xr func15 rfl ?_;refine xo rfl (ay.call (vs:=[]) func6 rfl H.Qx rfl (af.cD (xO hg))) ?_;rintro _ h1 ⟨⟨eb,rfl,K1⟩,e1⟩;refine cH 1 [0,2,3] rfl ?_;refine aB rfl ?_;refine ck func15 1 [0,2,3,4] rfl ?_;refine G.block rfl rfl ?_;refine gj (σ:=Nat) (fun i=>[(0,.string (bs s)),(3,.pointer (some ⟨eb,0,none⟩)),(4,.int .i64 (i:Nat))]) (fun i h'=>R i/\eC Ck h.size h' eb (st i)/\an h h') (fun i=>s.length-i) (0) rfl ⟨rfl,rfl,rfl,trivial⟩ ⟨hR0,h0▸K1,e1⟩ ?_;rintro i h2 ⟨hRi,K2,e2⟩ ih;have hle:=hRl i hRi;refine aB rfl ?_;refine dY func15 2 rfl ?_;refine xp rfl (ak.bD underlying9 rfl) ?_;refine cH 1 [0,3,4,10] rfl ?_;refine dz rfl rfl (fun hlt=>?_) (fun hlt=>?_)
 · have hil:i<s.length:=by omega
   obtain⟨x,hx⟩:∃x,s[i]? =some x:=⟨_,List.getElem?_eq_getElem hil⟩
   obtain⟨hR',hm,c,hkc,hdo⟩:=hst i hRi hil;have hgx:s.getD i 0=x:=by rw[List.getD_eq_getElem?_getD,hx];rfl
   have hisK:NB s i↔(x.toNat=94\/x.toNat=33)/\i+1<s.length:=by unfold NB;rw[hgx]
   refine aM rfl ?_;refine aB rfl ?_;refine G.block rfl rfl ?_;refine dY func15 2 rfl ?_;refine xp rfl (ak.eR underlying9 rfl rfl i rfl (ig hx)) ?_;refine xp rfl (ak.vz underlying5 underlying21 rfl) ?_;refine xp rfl (az (H.Dc _ _) rfl) ?_;refine xo rfl (ay.cS H.Pn) ?_;rintro _ h3 ⟨rfl,k3,e3,z3⟩;refine RW.gq rfl rfl rfl (ay.aG H.vM rfl rfl k3 (by first|rfl|(simp;done)|(simp;omega)) (by first|decide|exact of_decide_eq_true rfl|(simp;done)|(simp;omega)) (by first|decide|simp[Value.oneCell'])) ?_;rintro _ h4 ⟨rfl,k4,x4,z4⟩;have e4:an h2 h4:=an.only e3 x4 (Nat.le_refl _);have k4:aD h4 h2.size 35 (Bd 1 (x.toNat:Nat)):=by rw[wrap32 x] at k4;exact k4
   refine xd [0,3,4,5,10] rfl ?_;refine aB rfl ?_;refine aB rfl ?_;refine G.fF [(34,.bool (decide (NB s i)))] [(0,_),(3,_),(4,_),(5,_),(10,_)] ⟨rfl,rfl,rfl,rfl,rfl,trivial⟩ func15 rfl ?_ ?_
   · refine eW 2 rfl rfl (ak.eR underlying9 rfl rfl i rfl (ig hx)) ?_;refine dX 2 rfl ?_;refine RW.split (d:=22) rfl (fun g1=>?_) (fun g1=>?_)
     · refine eW 7 rfl rfl (ak.cY rfl rfl ⟨by omega,by omega⟩) ?_;refine eW 1 rfl rfl (ak.bD underlying9 rfl) ?_;refine dX 2 rfl ?_;refine RW.done rfl ?_;exact⟨rfl,au rfl (by have g1':=of_decide_eq_true g1;exact decide_eq_decide.2 (by rw[hisK];omega)),rfl,rfl,rfl,rfl,rfl,trivial⟩
     · refine eW 2 rfl rfl (ak.eR underlying9 rfl rfl i rfl (ig hx)) ?_;refine dX 3 rfl ?_;refine RW.split (d:=28) rfl (fun g2=>?_) (fun g2=>?_)
       · refine eW 1 rfl rfl (ak.cY rfl rfl ⟨by omega,by omega⟩) ?_;refine eW 1 rfl rfl (ak.bD underlying9 rfl) ?_;refine dX 2 rfl ?_;refine RW.done rfl ?_;exact⟨rfl,au rfl (by have g2':=of_decide_eq_true g2;exact decide_eq_decide.2 (by rw[hisK];omega)),rfl,rfl,rfl,rfl,rfl,trivial⟩
       · refine dX 6 rfl ?_;refine RW.done rfl ?_;exact⟨rfl,au rfl (by simp at g1 g2;simp[hisK];omega),rfl,rfl,rfl,rfl,rfl,trivial⟩
   · refine dz rfl rfl (fun hK=>?_) (fun hK=>?_)
     · obtain⟨y,hy⟩:∃y,s[i+1]? =some y:=⟨_,List.getElem?_eq_getElem (hisK.1 hK).2⟩
       have hgy:s.getD (i+1) 0=y:=by rw[List.getD_eq_getElem?_getD,hy];rfl
       have hlt2:=(hisK.1 hK).2;have hn:Eb s i=i+1+1:=if_pos hK;refine dY func15 2 rfl ?_;refine xp rfl (ak.cY rfl rfl ⟨by omega,by omega⟩) ?_;refine xp rfl (ak.eR underlying9 rfl rfl (i+1) (by omega) (ig hy)) ?_;refine xp rfl (ak.vz underlying5 underlying21 rfl) ?_;refine xp rfl (az (H.Dc _ _) rfl) ?_;refine RW.gq rfl rfl rfl (ay.aG H.vM rfl rfl k4 (by first|rfl|(simp;done)|(simp;omega)) (by first|decide|exact of_decide_eq_true rfl|(simp;done)|(simp;omega)) (by first|decide|simp[Value.oneCell'])) ?_;rintro _ h5 ⟨rfl,k5,x5,z5⟩;have e5:an h2 h5:=an.only e4 x5 (Nat.le_refl _);have k5:aD h5 h2.size 35 (Bd 6 (y.toNat:Nat)):=by rw[wrap32 y] at k5;exact k5
       refine xd [0,3,4,5,10,34] rfl ?_;refine aB rfl ?_;refine dY func15 2 rfl ?_;refine xp rfl (ak.eR underlying9 rfl rfl i rfl (ig hx)) ?_;refine cH 1 [0,3,4,5,10,34,44] rfl ?_;refine dz rfl rfl (fun h33=>?_) (fun h33=>?_)
       · have h33':x.toNat=33:=by omega
         have hkk:tK s i=(7,((y.toNat:Nat):Int)):=by unfold tK;rw[if_pos hK,hgx,if_pos h33',hgy]
         rw[hkk] at hkc;refine G.eE func15 rfl ?_;refine xp rfl (aa (off:=0) underlying35 rfl rfl H.cq rfl) ?_;refine RW.gq rfl rfl rfl (ay.aP H.cq rfl rfl k5 (by first|decide|exact of_decide_eq_true rfl|(simp;done)|(simp;omega)) rfl) ?_;rintro _ h6 ⟨rfl,k6,x6,z6⟩;have e6:an h2 h6:=an.only e5 x6 (Nat.le_refl _);have k6:aD h6 h2.size 35 (Bd 7 (y.toNat:Nat)):=k6;refine xd [0,3,4,5,10,34,44] rfl ?_;refine G.eE func15 rfl ?_;refine eW 1 rfl rfl (ak.cY rfl rfl ⟨by omega,by omega⟩) ?_;refine cH 1 [0,3,4,5,10,34,44] rfl ?_;refine G.eE func15 rfl ?_;refine dX 1 rfl ?_;have K5:=K2.aj e6;refine xp rfl (ak.aF H.Dj H.vM rfl k6.row (by first|rfl|(simp;done)|(simp;omega))) ?_;refine xo rfl (ay.call (vs:=[_,_]) func10 rfl H.KG rfl (af.cD (mV K5 hm hkc (fun g kg=>hdo kg)))) ?_;rintro _ h9 ⟨K9,x9⟩;refine xd [0,3,4,5,10,34,44] rfl ?_;refine G.cn ?_;refine G.eE func15 rfl ?_;refine eW 1 rfl rfl (ak.cY rfl rfl ⟨by omega,by omega⟩) ?_;refine cH 1 [0,3,4,5,10,34,44] rfl ?_;exact ih (i+1+1) _ _ ⟨rfl,rfl,rfl,trivial⟩ ⟨hn▸hR',hn▸K9,iN (e2.trans e6) (x9.mono fun _ _ q=>q.1)⟩ (by omega)
       · have h33':¬x.toNat=33:=by omega
         have hkk:tK s i=(6,((y.toNat:Nat):Int)):=by unfold tK;rw[if_pos hK,hgx,if_neg h33',hgy]
         rw[hkk] at hkc;refine aM rfl ?_;refine G.eE func15 rfl ?_;refine eW 1 rfl rfl (ak.cY rfl rfl ⟨by omega,by omega⟩) ?_;refine cH 1 [0,3,4,5,10,34,44] rfl ?_;refine G.eE func15 rfl ?_;refine dX 1 rfl ?_;have K5:=K2.aj e5;refine xp rfl (ak.aF H.Dj H.vM rfl k5.row (by first|rfl|(simp;done)|(simp;omega))) ?_;refine xo rfl (ay.call (vs:=[_,_]) func10 rfl H.KG rfl (af.cD (mV K5 hm hkc (fun g kg=>hdo kg)))) ?_;rintro _ h9 ⟨K9,x9⟩;refine xd [0,3,4,5,10,34,44] rfl ?_;refine G.cn ?_;refine G.eE func15 rfl ?_;refine eW 1 rfl rfl (ak.cY rfl rfl ⟨by omega,by omega⟩) ?_;refine cH 1 [0,3,4,5,10,34,44] rfl ?_;exact ih (i+1+1) _ _ ⟨rfl,rfl,rfl,trivial⟩ ⟨hn▸hR',hn▸K9,iN (e2.trans e5) (x9.mono fun _ _ q=>q.1)⟩ (by omega)
     · have hn:Eb s i=i+1:=if_neg hK;refine dY func15 2 rfl ?_;refine xp rfl (ak.eR underlying9 rfl rfl i rfl (ig hx)) ?_;refine cH 1 [0,3,4,5,10,34,51] rfl ?_;refine dz rfl rfl (fun h10=>?_) (fun h10=>?_)
       · have h10':x.toNat=10:=by omega
         have hkk:tK s i=(2,0):=by unfold tK;rw[if_neg hK,hgx,if_pos h10']
         rw[hkk] at hkc;refine G.eE func15 rfl ?_;refine xp rfl (az (H.Nc _) rfl) ?_;refine RW.gq rfl rfl rfl (ay.aG H.vM rfl rfl k4 (by first|rfl|(simp;done)|(simp;omega)) (by first|decide|exact of_decide_eq_true rfl|(simp;done)|(simp;omega)) (by first|decide|simp[Value.oneCell'])) ?_;rintro _ h5 ⟨rfl,k5,x5,z5⟩;have e5:an h2 h5:=an.only e4 x5 (Nat.le_refl _);have k5:aD h5 h2.size 35 (Bd 2 0):=k5;have K5:=K2.aj e5;refine xd [0,3,4,5,10,34,51] rfl ?_;refine G.eE func15 rfl ?_;refine eW 1 rfl rfl (ak.aF H.Dj H.vM rfl k5.row (by first|rfl|(simp;done)|(simp;omega))) ?_;refine xo rfl (ay.call (vs:=[_,_]) func10 rfl H.KG rfl (af.cD (mV K5 hm hkc (fun g kg=>hdo kg)))) ?_;rintro _ h9 ⟨K9,x9⟩;refine xd [0,3,4,5,10,34,51] rfl ?_;refine G.cn ?_;refine G.eE func15 rfl ?_;refine eW 1 rfl rfl (ak.cY rfl rfl ⟨by omega,by omega⟩) ?_;refine cH 1 [0,3,4,5,10,34,51] rfl ?_;exact ih (i+1) _ _ ⟨rfl,rfl,rfl,trivial⟩ ⟨hn▸hR',hn▸K9,iN (e2.trans e5) (x9.mono fun _ _ q=>q.1)⟩ (by omega)
       · have h10':¬x.toNat=10:=by omega
         have hkk:tK s i=(1,((x.toNat:Nat):Int)):=by unfold tK;rw[if_neg hK,hgx,if_neg h10']
         rw[hkk] at hkc;have K5:=K2.aj e4;refine aM rfl ?_;refine G.eE func15 rfl ?_;refine eW 1 rfl rfl (ak.aF H.Dj H.vM rfl k4.row (by first|rfl|(simp;done)|(simp;omega))) ?_;refine xo rfl (ay.call (vs:=[_,_]) func10 rfl H.KG rfl (af.cD (mV K5 hm hkc (fun g kg=>hdo kg)))) ?_;rintro _ h9 ⟨K9,x9⟩;refine xd [0,3,4,5,10,34,51] rfl ?_;refine G.cn ?_;refine G.eE func15 rfl ?_;refine eW 1 rfl rfl (ak.cY rfl rfl ⟨by omega,by omega⟩) ?_;refine cH 1 [0,3,4,5,10,34,51] rfl ?_;exact ih (i+1) _ _ ⟨rfl,rfl,rfl,trivial⟩ ⟨hn▸hR',hn▸K9,iN (e2.trans e4) (x9.mono fun _ _ q=>q.1)⟩ (by omega)
 · refine ir rfl rfl ?_;refine ck func15 2 [0,2,3,4,10] rfl ?_;refine cg func15 rfl rfl ?_;rw[show s.length=i by omega];exact⟨_,rfl,⟨eb,rfl,K2⟩,e2⟩
theorem nG.Mf:∀(n:Nat){B:Nat}{e:iP}(_:nG B e) (r:Bool),nG (B+n) (dP n e r)
 | 0,_,_,k,_=>k
 |n+1,B,e,k,r=>by
  have h1:=k.back r;rw[dP];split
  · have:=nG.Mf n h1 r;exact this.up (by omega)
  · exact h1.up (by omega)
theorem nG.HU (k:nG B e) (r:Bool) (n:Int):nG (B+100) (fK e r n):=by
 rw[xS];exact(nG.Mf _ k.set r).up (by omega)
theorem Dx.ok (f:Dx e c) (hI:nG B e) (hB:B<=4000000) (hk:gX c) (hct:c.text.length<=100000):yG e c (fO e c) :=
 fun {_ _ _} k=>Ac k hI.inv (by omega) c hct hk f.1 f.2.1 f.2.2.1 f.2.2.2.1 f.2.2.2.2
theorem Ff (hI:nG B e) (hB:B<=4000000) (c:Cm) (hk:c.kind=12\/c.kind=13):yG e c (fK e (decide (c.kind=13)) c.n) :=
 fun {_ _ _} k=>kJ k c hk hI hB
theorem xQ:nG 0 kW:=⟨⟨by decide,by decide,by decide,by decide,(fun _ h=>nomatch h),by decide,(fun _ h=>nomatch h),by decide,(fun _ h=>nomatch h),by decide,by decide,by decide,by decide,by decide,by decide,by decide,by decide⟩,rfl,by decide,(fun _ h=>nomatch h),(fun _ h=>nomatch h),by decide⟩
def cK (x:UInt8):Cm:=⟨2,0,1,[x],false⟩
def OO:Cm:=⟨14,0,1,[],false⟩
def Qf:Cm:=⟨12,0,1,[],false⟩
def Qg:Cm:=⟨13,0,1,[],false⟩
def pA:iP:=fO kW (cK 97)
def LR:iP:=fO pA (cK 98)
def pU:iP:=fK LR false 1
def pR:iP:=fK pU true 1
def pP:iP:=fO kW (cK 40)
def pN:iP:=fO pP OO
theorem f1:Dx kW (cK 97):=by unfold Dx;decide +kernel
theorem f2:Dx pA (cK 98):=by unfold Dx;decide +kernel
theorem f3:Dx kW (cK 40):=by unfold Dx;decide +kernel
theorem f4:Dx pP OO:=by unfold Dx;decide +kernel
theorem MG:LR.s.text=[97,98]/\pU.s.text=[]/\pR.s.text=[97,98]/\pN.s.text=[40,10,32,32]/\1<(aQ pN.s.text).1.length:=by decide +kernel
theorem kK (x:UInt8):gX (cK x):=.inl rfl
theorem i1:nG 20000 pA:=xQ.do (kK _) f1.2.1
theorem i2:nG 40000 LR:=i1.do (kK _) f2.2.1
theorem i3:nG 40100 pU:=i2.HU false 1
theorem i4:nG 40200 pR:=i3.HU true 1
theorem i5:nG 20000 pP:=xQ.do (kK _) f3.2.1
theorem i6:nG 40000 pN:=i5.do (c:=OO) (.inr (.inr (.inr (.inl rfl)))) f4.2.1
theorem d1:yG kW (cK 97) pA:=f1.ok xQ (by decide) (kK _) (by decide)
theorem d2:yG pA (cK 98) LR:=f2.ok i1 (by decide) (kK _) (by decide)
theorem d3:yG LR Qf pU:=Ff i2 (by decide) Qf (.inl rfl)
theorem d4:yG pU Qg pR:=Ff i3 (by decide) Qg (.inr rfl)
theorem d5:yG kW (cK 40) pP:=f3.ok xQ (by decide) (kK _) (by decide)
theorem d6:yG pP OO pN:=f4.ok i5 (by decide) (.inr (.inr (.inr (.inl rfl)))) (by decide)
theorem Qa (x:UInt8) (hx:x.toNat<128) (he:Utf8.encode ((x.toNat:Nat):Int)=bs [x]):vh 1 ((x.toNat:Nat):Int) (cK x):=.inl ⟨rfl,by omega,by omega,rfl,rfl,rfl,rfl,he⟩
theorem Q3:vh 2 0 OO:=.inr (.inl ⟨rfl,rfl⟩)
theorem Qy:vh 6 122 Qf:=.inr (.inr (.inl ⟨rfl,rfl,rfl⟩))
theorem Q2:vh 7 122 Qg:=.inr (.inr (.inr ⟨rfl,rfl,rfl⟩))
theorem MT:vh 1 97 (cK 97):=Qa 97 (by decide) (by decide +kernel)
theorem MR:vh 1 98 (cK 98):=Qa 98 (by decide) (by decide +kernel)
theorem Qb:vh 1 40 (cK 40):=Qa 40 (by decide) (by decide +kernel)
theorem ia {st:Nat->iP}{R:Nat->Prop}{i j:Nat}{q:Int×Int}(hn:Eb s i=j) (hq:tK s i=q) (hR:R j) (hm:(st i).s.mode=0) (hk:vh q.1 q.2 c) (hd:yG (st i) c (st j)):R (Eb s i)/\(st i).s.mode=0/\∃c,vh (tK s i).1 (tK s i).2 c/\yG (st i) c (st (Eb s i)):=by
 rw[hn,hq];exact⟨hR,hm,c,hk,hd⟩
def HF:Nat->iP
 | 0=>kW
 | 1=>pA
 | 2=>LR
 | 3=>LR
 | 4=>pU
 | 5=>pU
 |_=>pR
def Py:Nat->iP
 | 0=>kW
 | 1=>pP
 |_=>pN
section
variable {h:ai}(hg:lf h)
include hg
theorem IC:af Tryz.prog 15 #[.string (bs [97,98])] h (bg fun r h'=>(∃eb:Nat,r= .pointer (some ⟨eb,0,none⟩)/\eC Ck h.size h' eb LR)/\an h h') :=
 kQ hg [97,98] (by decide) (fun i=>i<=2) HF rfl (by decide) (fun _ q=>q) fun i hi hl=>by
  match i,hl with
  | 0,_=>exact ia (s:=[97,98]) (st:=HF) (R:=fun i=>i<=2) (i:=0) (j:=1) (q:=(1,97)) (by decide) (by decide) (by decide) f1.1 MT @d1
  | 1,_=>exact ia (s:=[97,98]) (st:=HF) (R:=fun i=>i<=2) (i:=1) (j:=2) (q:=(1,98)) (by decide) (by decide) (by decide) f2.1 MR @d2
theorem GH:af Tryz.prog 15 #[.string (bs [97,98,94,122])] h (bg fun r h'=>(∃eb:Nat,r= .pointer (some ⟨eb,0,none⟩)/\eC Ck h.size h' eb pU)/\an h h') :=
 kQ hg [97,98,94,122] (by decide) (fun i=>i<=4/\i≠3) HF rfl (by decide) (fun _ q=>q.1) fun i hi hl=>by
  match i,hi,hl with
  | 0,_,_=>exact ia (s:=[97,98,94,122]) (st:=HF) (R:=fun i=>i<=4/\i≠3) (i:=0) (j:=1) (q:=(1,97)) (by decide) (by decide) (by decide) f1.1 MT @d1
  | 1,_,_=>exact ia (s:=[97,98,94,122]) (st:=HF) (R:=fun i=>i<=4/\i≠3) (i:=1) (j:=2) (q:=(1,98)) (by decide) (by decide) (by decide) f2.1 MR @d2
  | 2,_,_=>exact ia (s:=[97,98,94,122]) (st:=HF) (R:=fun i=>i<=4/\i≠3) (i:=2) (j:=4) (q:=(6,122)) (by decide) (by decide) (by decide) i2.mode Qy @d3
  | 3,hi,_=>exact absurd rfl hi.2
theorem D5:af Tryz.prog 15 #[.string (bs [97,98,94,122,33,122])] h (bg fun r h'=>(∃eb:Nat,r= .pointer (some ⟨eb,0,none⟩)/\eC Ck h.size h' eb pR)/\an h h') :=
 kQ hg [97,98,94,122,33,122] (by decide) (fun i=>i<=6/\i≠3/\i≠5) HF rfl (by decide) (fun _ q=>q.1) fun i hi hl=>by
  match i,hi,hl with
  | 0,_,_=>exact ia (s:=[97,98,94,122,33,122]) (st:=HF) (R:=fun i=>i<=6/\i≠3/\i≠5) (i:=0) (j:=1) (q:=(1,97)) (by decide) (by decide) (by decide) f1.1 MT @d1
  | 1,_,_=>exact ia (s:=[97,98,94,122,33,122]) (st:=HF) (R:=fun i=>i<=6/\i≠3/\i≠5) (i:=1) (j:=2) (q:=(1,98)) (by decide) (by decide) (by decide) f2.1 MR @d2
  | 2,_,_=>exact ia (s:=[97,98,94,122,33,122]) (st:=HF) (R:=fun i=>i<=6/\i≠3/\i≠5) (i:=2) (j:=4) (q:=(6,122)) (by decide) (by decide) (by decide) i2.mode Qy @d3
  | 3,hi,_=>exact absurd rfl hi.2.1
  | 4,_,_=>exact ia (s:=[97,98,94,122,33,122]) (st:=HF) (R:=fun i=>i<=6/\i≠3/\i≠5) (i:=4) (j:=6) (q:=(7,122)) (by decide) (by decide) (by decide) i3.mode Q2 @d4
  | 5,hi,_=>exact absurd rfl hi.2.2
theorem IB:af Tryz.prog 15 #[.string (bs [40,10])] h (bg fun r h'=>(∃eb:Nat,r= .pointer (some ⟨eb,0,none⟩)/\eC Ck h.size h' eb pN)/\an h h') :=
 kQ hg [40,10] (by decide) (fun i=>i<=2) Py rfl (by decide) (fun _ q=>q) fun i hi hl=>by
  match i,hl with
  | 0,_=>exact ia (s:=[40,10]) (st:=Py) (R:=fun i=>i<=2) (i:=0) (j:=1) (q:=(1,40)) (by decide) (by decide) (by decide) f3.1 Qb @d5
  | 1,_=>exact ia (s:=[40,10]) (st:=Py) (R:=fun i=>i<=2) (i:=1) (j:=2) (q:=(2,0)) (by decide) (by decide) (by decide) i5.mode Q3 @d6
theorem jy:af Tryz.prog 5 #[] h (bg fun r h'=>r= .bool true/\an h h'):=by
 obtain⟨t1,t2,t3,t4,t5⟩:=MG;refine af.of func5 rfl rfl ?_;refine ck func5 1 [0] rfl ?_;refine xr func5 rfl ?_;refine xo rfl (ay.call (vs:=[_]) func15 rfl H.KF rfl (af.cD (IC hg))) ?_;rintro _ h1 ⟨⟨b1,rfl,K1⟩,e1⟩;refine xo rfl (ay.call (vs:=[_]) func15 rfl H.KF rfl (af.cD (GH (hg.aj e1)))) ?_;rintro _ h2 ⟨⟨b2,rfl,K2⟩,e2⟩;refine xo rfl (ay.call (vs:=[_]) func15 rfl H.KF rfl (af.cD (D5 ((hg.aj e1).aj e2)))) ?_;rintro _ h3 ⟨⟨b3,rfl,K3⟩,e3⟩;refine xo rfl (ay.call (vs:=[_]) func15 rfl H.KF rfl (af.cD (IB (((hg.aj e1).aj e2).aj e3)))) ?_;rintro _ h4 ⟨⟨b4,rfl,K4⟩,e4⟩;have K1:=((K1.aj e2).aj e3).aj e4;have K2:=(K2.aj e3).aj e4;have K3:=K3.aj e4;have e04:=((e1.trans e2).trans e3).trans e4;refine cH 4 [0,1,2,3,4] rfl ?_;refine aB rfl ?_;refine G.D3 (fun(u:Unit) (h':ai)=>an h4 h') (fun(u:Unit)=>[(0,.bool true)]) [(1,_),(2,_),(3,_),(4,_)] ⟨rfl,rfl,rfl,rfl,trivial⟩ func5 rfl ?_ ?_
 · refine dX 1 rfl ?_;refine xo rfl (ay.call (vs:=[_]) func8 rfl H.Kj rfl (af.cD (dw K1 i2.inv (by decide)))) ?_;rintro _ h5 ⟨⟨_,_,_,_,_,_,_,_,_,_,_,_,rfl⟩,e5⟩;refine xp rfl (ak.field (off:=0) underlying31 rfl rfl H.rm rfl rfl) ?_;refine xp rfl (ak.xN rfl rfl) ?_;refine dX 1 rfl ?_;refine RW.dO (d:=13) (b':=true) rfl (decide_eq_true (by exact congrArg bs t1)) ?_;refine dX 1 rfl ?_;refine xo rfl (ay.call (vs:=[_]) func8 rfl H.Kj rfl (af.cD (dw (K2.aj e5) i3.inv (by decide)))) ?_;rintro _ h6 ⟨⟨_,_,_,_,_,_,_,_,_,_,_,_,rfl⟩,e6⟩;refine xp rfl (ak.field (off:=0) underlying31 rfl rfl H.rm rfl rfl) ?_;refine xp rfl (ak.xN rfl rfl) ?_;refine dX 2 rfl ?_;refine RW.dO (d:=19) (b':=true) rfl (decide_eq_true (by exact congrArg bs t2)) ?_;refine dX 1 rfl ?_;refine xo rfl (ay.call (vs:=[_]) func8 rfl H.Kj rfl (af.cD (dw ((K3.aj e5).aj e6) i4.inv (by decide)))) ?_;rintro _ h7 ⟨⟨_,_,_,_,_,_,_,_,_,_,_,_,rfl⟩,e7⟩;refine xp rfl (ak.field (off:=0) underlying31 rfl rfl H.rm rfl rfl) ?_;refine xp rfl (ak.xN rfl rfl) ?_;refine dX 2 rfl ?_;refine RW.dO (d:=25) (b':=true) rfl (decide_eq_true (by exact congrArg bs t3)) ?_;refine dX 1 rfl ?_;refine xo rfl (ay.call (vs:=[_]) func8 rfl H.Kj rfl (af.cD (dw (((K4.aj e5).aj e6).aj e7) i6.inv (by decide)))) ?_;rintro _ h8 ⟨⟨_,_,_,_,_,_,_,_,_,_,_,_,rfl⟩,e8⟩;refine xp rfl (ak.field (off:=0) underlying31 rfl rfl H.rm rfl rfl) ?_;refine xp rfl (ak.xN rfl rfl) ?_;refine dX 2 rfl ?_;refine RW.dO (d:=31) (b':=true) rfl (decide_eq_true (by exact congrArg bs t4)) ?_;refine dX 1 rfl ?_;refine xo rfl (ay.call (vs:=[_]) func11 rfl H.P9 rfl (af.cD (yS ((((K4.aj e5).aj e6).aj e7).aj e8) (by rw[t4];decide)))) ?_;rintro _ h9 ⟨⟨_,_,rfl⟩,e9⟩;refine xp rfl (ak.cP underlying41 rfl) ?_;refine dX 3 rfl ?_;refine RW.done rfl ?_;exact⟨(),((((e5.trans e6).trans e7).trans e8).trans e9),au rfl (by exact decide_eq_true (by omega)),rfl,rfl,rfl,rfl,trivial⟩
 · rintro u h5 e5;refine cg func5 rfl rfl ?_;exact⟨_,rfl,rfl,e04.trans e5⟩
end
theorem Nj (h:∀(i:Nat) (x:UInt8),s[i]? =some x->x.toNat<128):pg s:=fun c hc=>by
 obtain⟨i,hi,e⟩:=List.getElem_of_mem hc;exact h i c (by rw[List.getElem?_eq_getElem hi,e])
structure HD (h g:ai) (eb:Nat) (w:Value) (was:List By) (e:iP):Prop where
 own:ax g h.size 9 1 w was.length (was.map lZ)
 ed:eC (bT w.ownBlock) h.size g eb e
 ext:an h g
theorem HD.aj {h g g':ai}{eb:Nat}{w:Value}{was:List By}{e:iP}(k:HD h g eb w was e) (x:an g g'):HD h g' eb w was e:=⟨k.own.ext x (fun _ _ q=>q),k.ed.aj x,k.ext.trans x⟩
theorem HD.step {g':ai}{w:Value}{was:List By}{e':iP}(k:HD h g eb w was e) (ke:eC (bT w.ownBlock) h.size g' eb e') (x:Ext (nP h.size g) g g'):HD h g' eb w was e' :=
 ⟨k.own.ext x (fun _ hb q=>q.ns (show bC g _ 9 from ax.ty k.own hb) rfl),ke,iN k.ext (x.mono fun _ _ q=>q.1)⟩
theorem HD.row {oa:Option Addr}{n c:Nat}{was:List By}(k:HD h g eb (.slice oa n c) was e):Sl pY g (fun _=>False) oa n c was:=(ax.shut (h1:=fun _=>rfl) k.own (fun _ _ q=>q):bz pY g (fun _=>False) _ was).open_slice
theorem Dx.call (f:Dx e c) (hI:nG B e) (hB:B<=4000000) (hk:gX c) (hct:c.text.length<=100000) (k:eC Z base g eb e):af Tryz.prog 7 #[.pointer (some ⟨eb,0,none⟩),HK c] g (bg fun _ h'=>eC Z base h' eb (fO e c)/\Ext (nP base g) g h') :=
 Ac k hI.inv (by omega) c hct hk f.1 f.2.1 f.2.2.1 f.2.2.2.1 f.2.2.2.2
theorem Gp (k:eC Z base h eb e) (hI:MI B e.s) (hB:B<=5000000) :
 af Tryz.prog 8 #[.pointer (some ⟨eb,0,none⟩)] h (bg fun r h'=>(∃xa xn xc ya yn yc za zn zc ua un uc,r= .agg #[.string (bs e.s.text),.int .i64 e.s.cur,.int .i64 e.s.mode,.int .i64 e.s.mark,.slice xa xn xc,.slice ya yn yc,.int .i64 e.s.at_,.string (bs e.s.draft),.int .i64 e.s.last,.int .i64 e.s.from_,.int .i64 e.s.to_,.string (bs e.s.query),.int .i64 e.s.found,.string (bs e.s.saved),.int .i64 e.s.savedAt,.int .i64 e.s.was,.slice za zn zc,.slice ua un uc,.int .i64 e.s.bells])/\an h h'):=(dw k hI hB).ret fun _ _ q=>q
theorem Oy:gX ve:=.inr (.inl rfl)
theorem Qz:gX JK:=.inr (.inr (.inr (.inr rfl)))
theorem Oz (x:By):gX (EN x):=.inl rfl
theorem OA:gX Bw:=.inr (.inr (.inl rfl))
def cU (k n:Int):Cm:=⟨k,0,n,[],false⟩
theorem tO (hg:lf h){v:Value}{l:List By}(hl:bz pY h (fun _=>False) v l) :
 af Tryz.prog 3 #[v] h (bg fun r h'=>r= .bool true/\an h h'):=by
 obtain⟨oa,n,c,rfl,hsl⟩:=hl.open;have hn:l.length=n:=hsl.len;subst hn;refine af.of func3 rfl rfl ?_;refine ck func3 1 [0,2] rfl ?_;refine aB rfl ?_;refine dY func3 1 rfl ?_;refine xp rfl (ak.cP underlying22 rfl) ?_;refine cH 1 [0,2,12] rfl ?_;refine dz rfl rfl (fun hbig=>?_) (fun hbig=>?_)
 · refine xr func3 rfl ?_;refine xo rfl (ay.call (vs:=[]) func5 rfl H.Pf rfl (af.cD (jy hg))) ?_;rintro _ h1 ⟨rfl,e1⟩;refine cH 1 [0,2,12] rfl ?_;refine cg func3 rfl rfl ?_;exact⟨_,rfl,rfl,e1⟩
 · refine aM rfl ?_;refine xr func3 rfl ?_;refine xo rfl (ay.call (vs:=[]) func6 rfl H.Qx rfl (af.cD (xO hg))) ?_;rintro _ h1 ⟨⟨eb,rfl,K1⟩,e1⟩;refine cH 1 [0,2,3,12] rfl ?_;refine xr func3 rfl ?_;refine xo rfl (ay.jJ (us:=[_]) underlying22 H.uH rfl rfl (by decide) (by simp[Value.oneCell'])) ?_;rintro _ h2 ⟨rfl,hh2⟩;have e2:an h1 h2:=by rw[hh2];exact Ext.push _ _ _
   have ho2:ax h2 h.size 9 1 (.slice (some ⟨h1.size,0,none⟩) 1 1) 1 [lZ []]:=by rw[hh2];exact mo h1 [lZ []] _ 1 rfl (by decide) h.size e1.size
   have S2:HD h h2 eb (.slice (some ⟨h1.size,0,none⟩) 1 1) [[]] kW:=⟨ho2,K1.NP e2 (fun y q=>.inr (Nat.le_of_eq (Option.some.inj q).symm)) (fun y q=>ax.ty ho2 q.symm),e1.trans e2⟩
   refine cH 1 [0,2,3,4,12] rfl ?_;refine aB rfl ?_;refine ck func3 1 [0,2,3,4,5,12] rfl ?_;refine G.block rfl rfl ?_;refine gj (σ:=Nat×Value) (fun q=>[(0,.slice oa l.length c),(3,.pointer (some ⟨eb,0,none⟩)),(4,q.2),(5,.int .i64 (q.1:Nat))]) (fun q g=>∃Hs was e,HD h g eb q.2 was e/\Km q.1 Hs e was/\nG (80000*q.1) e/\q.1<=l.length) (fun q=>l.length-q.1) ((0,.slice (some ⟨h1.size,0,none⟩) 1 1)) rfl ⟨rfl,rfl,rfl,rfl,trivial⟩ ⟨_,_,_,S2,Lj,xQ,Nat.zero_le _⟩ ?_;rintro⟨i,w⟩ g ⟨Hs,was,e0,S,U,I,hi⟩ ih
   try dsimp only
   dsimp only at S U I hi;obtain⟨wa,wc,rfl,how⟩:=S.own.open;have hwl:=U.wl;refine aB rfl ?_;refine dY func3 2 rfl ?_;refine xp rfl (ak.cP underlying22 rfl) ?_;refine cH 1 [0,3,4,5,19] rfl ?_;refine dz rfl rfl (fun hlt=>?_) (fun hlt=>?_)
   · have hil:i<l.length:=by omega
     obtain⟨x,hx⟩:∃x,l[i]? =some x:=⟨_,List.getElem?_eq_getElem hil⟩
     obtain⟨b,o',cs,ha,hno,hrow,rfl⟩:=hsl.get i x hx;have hrg:=S.ext.rowAt (fun k=>k) hrow;have hbx:=aE x;refine aM rfl ?_;refine aB rfl ?_;refine G.block rfl rfl ?_;refine aB rfl ?_;refine aB rfl ?_;refine G.fF [(35,.bool (decide (100<x.length\/x.length=0)))] [(0,_),(3,_),(4,_),(5,_),(19,_)] ⟨rfl,rfl,rfl,rfl,rfl,trivial⟩ func3 rfl ?_ ?_
     · refine eW 2 rfl rfl (ak.bK underlying22 H.kF rfl rfl i rfl ha hil) ?_;refine xp rfl (aq H.rm rfl (hrg 0 _ rfl)) ?_;refine xp rfl (ak.bD underlying9 rfl) ?_;refine dX 2 rfl ?_;refine RW.split (d:=28) rfl (fun q1=>?_) (fun q1=>?_)
       · have q1:=of_decide_eq_true q1;refine dX 7 rfl ?_;refine RW.done rfl ?_;exact⟨rfl,au rfl (by exact(decide_eq_true (.inl (by omega))).symm),rfl,rfl,rfl,rfl,rfl,trivial⟩
       · have q1:=of_decide_eq_false q1;refine eW 2 rfl rfl (ak.bK underlying22 H.kF rfl rfl i rfl ha hil) ?_;refine xp rfl (aq H.rm rfl (hrg 0 _ rfl)) ?_;refine xp rfl (ak.bD underlying9 rfl) ?_;refine dX 2 rfl ?_;refine RW.done rfl ?_;exact⟨rfl,au rfl (by exact decide_eq_decide.2 (by omega)),rfl,rfl,rfl,rfl,rfl,trivial⟩
     · refine dz rfl rfl (fun hb=>?_) (fun hb=>?_)
       · refine xr func3 rfl ?_;refine xo rfl (ay.call (vs:=[]) func5 rfl H.Pf rfl (af.cD (jy (hg.aj S.ext)))) ?_;rintro _ h5 ⟨rfl,e5⟩;refine cH 1 [0,2,3,4,5,19,35] rfl ?_;refine cg func3 rfl rfl ?_;exact⟨_,rfl,rfl,S.ext.trans e5⟩
       · refine aM rfl ?_;refine aB rfl ?_;refine ck func3 1 [0,3,4,5,6,19,35] rfl ?_;refine G.block rfl rfl ?_;refine gj (σ:=Nat) (fun j=>[(0,.slice oa l.length c),(3,.pointer (some ⟨eb,0,none⟩)),(4,.slice wa was.length wc),(5,.int .i64 (i:Nat)),(6,.int .i64 (j:Nat))]) (fun j g'=>g=g'/\j<=x.length/\∀(k:Nat) (y:UInt8),k<j->x[k]? =some y->y.toNat<128) (fun j=>x.length-j) (0) rfl ⟨rfl,rfl,rfl,rfl,rfl,trivial⟩ ⟨rfl,Nat.zero_le _,fun _ _ q=>absurd q (Nat.not_lt_zero _)⟩ ?_;rintro j g' ⟨hgg,hj,hasc⟩ ih2;subst hgg;refine aB rfl ?_;refine dY func3 3 rfl ?_;refine xp rfl (ak.bK underlying22 H.kF rfl rfl i rfl ha hil) ?_;refine xp rfl (aq H.rm rfl (hrg 0 _ rfl)) ?_;refine xp rfl (ak.bD underlying9 rfl) ?_;refine cH 1 [0,3,4,5,6,43] rfl ?_;refine dz rfl rfl (fun hlt2=>?_) (fun hlt2=>?_)
         · obtain⟨y,hy⟩:∃y,x[j]? =some y:=⟨_,List.getElem?_eq_getElem (by omega)⟩
           refine aM rfl ?_;refine aB rfl ?_;refine G.block rfl rfl ?_;refine dY func3 2 rfl ?_;refine xp rfl (ak.bK underlying22 H.kF rfl rfl i rfl ha hil) ?_;refine xp rfl (aq H.rm rfl (hrg 0 _ rfl)) ?_;refine eW 1 rfl rfl (ak.eR underlying9 rfl rfl j rfl (ig hy)) ?_;refine cH 1 [0,3,4,5,6,43,52] rfl ?_;refine dz rfl rfl (fun h127=>?_) (fun h127=>?_)
           · refine xr func3 rfl ?_;refine xo rfl (ay.call (vs:=[]) func5 rfl H.Pf rfl (af.cD (jy (hg.aj S.ext)))) ?_;rintro _ h5 ⟨rfl,e5⟩;refine cH 1 [0,2,3,4,5,6,43,52] rfl ?_;refine cg func3 rfl rfl ?_;exact⟨_,rfl,rfl,S.ext.trans e5⟩
           · refine aM rfl ?_;refine G.cn ?_;refine G.eE func3 rfl ?_;refine eW 1 rfl rfl (ak.cY rfl rfl ⟨by omega,by omega⟩) ?_;refine cH 1 [0,3,4,5,6,43,52] rfl ?_;exact ih2 (j+1) _ _ ⟨rfl,rfl,rfl,rfl,rfl,trivial⟩ ⟨rfl,by omega,fun k y' hk hy'=>by rcases Nat.lt_or_ge k j with q|q;exact hasc k y' q hy';obtain rfl:k=j:=(by omega);rw[hy] at hy';cases hy';omega⟩ (by omega)
         · have hxa:pg x:=Nj fun k y hy=>hasc k y (by have:=(List.getElem?_eq_some_iff.1 hy).1;omega) hy
           have hx0:x≠[]:=fun q=>hb (.inr (by rw[q];rfl))
           obtain⟨d1,d2,d3,d4⟩:=Iv U (by omega) hx0 (by omega) hxa;obtain⟨Ht,U'⟩:=Iu U (by omega) hx0 (by omega) hxa;have I1:=I.do Oy d1.2.1;have I2:=I1.do Qz d2.2.1;have I3:=I2.do (Oz x) d3.2.1;have I4:=I3.do OA d4.2.1;have hxl:x.length<=100000:=by omega
           refine ir rfl rfl ?_;refine dY func3 1 rfl ?_;refine xp rfl (az (H.ri _ _ _) rfl) ?_;refine xo rfl (ay.call (vs:=[_,_]) func7 rfl H.LS rfl (af.cD ((d1.call I (by omega) Oy (by decide) S.ed)))) ?_;rintro _ g1 ⟨K1,x1⟩;have S1:=S.step K1 x1;refine xd [0,3,4,5,6,43] rfl ?_;refine dY func3 1 rfl ?_;refine xp rfl (az (H.sS _ _) rfl) ?_;refine xo rfl (ay.call (vs:=[_,_]) func7 rfl H.LS rfl (af.cD ((d2.call I1 (by omega) Qz (by decide) S1.ed)))) ?_;rintro _ g2 ⟨K2,x2⟩;have S2:=S1.step K2 x2;have hr2:=S2.ext.rowAt (fun k=>k) hrow;refine xd [0,3,4,5,6,43] rfl ?_;refine dY func3 3 rfl ?_;refine xp rfl (ak.bK underlying22 H.kF rfl rfl i rfl ha hil) ?_;refine xp rfl (aq H.rm rfl (hr2 0 _ rfl)) ?_;refine xp rfl (az (H.ES _ _ _) rfl) ?_;refine xo rfl (ay.call (vs:=[_,_]) func7 rfl H.LS rfl (af.cD ((d3.call I2 (by omega) (Oz x) hxl S2.ed)))) ?_;rintro _ g3 ⟨K3,x3⟩;have S3:=S2.step K3 x3;refine xd [0,3,4,5,6,43] rfl ?_;refine dY func3 1 rfl ?_;refine xp rfl (az (H.ri _ _ _) rfl) ?_;refine xo rfl (ay.call (vs:=[_,_]) func7 rfl H.LS rfl (af.cD ((d4.call I3 (by omega) OA (by decide) S3.ed)))) ?_;rintro _ g4 ⟨K4,x4⟩;have S4:=S3.step K4 x4;refine xd [0,3,4,5,6,43] rfl ?_;refine G.eE func3 rfl ?_;refine dX 2 rfl ?_;refine xo rfl (ay.call (vs:=[_]) func8 rfl H.Kj rfl (af.cD (Gp S4.ed I4.inv (by omega)))) ?_;rintro _ g5 ⟨⟨_,_,_,_,_,_,_,_,_,_,_,_,rfl⟩,e5⟩;refine xp rfl (ak.field (off:=0) underlying31 rfl rfl H.rm rfl rfl) ?_;refine xo rfl (ay.jJ (us:=[_]) underlying22 H.uH rfl rfl (by decide) (by simp[Value.oneCell'])) ?_;rintro _ g6 ⟨rfl,hg6⟩;have e6:an g5 g6:=by rw[hg6];exact Ext.push _ _ _
           have S6:=(S4.aj e5).aj e6;have hz6:=S6.ext.size;generalize hE:fO (fO (fO (fO e0 ve) JK) (EN x)) Bw=E at *;have hr6:Lw.rowAt g6 g5.size 0 [lZ E.s.text]:=by rw[hg6];exact cO g5 [lZ E.s.text] _
           refine xo rfl (ay.append underlying22 H.uH rfl rfl S6.own (show ([E.s.text].map lZ).length=1*1 from rfl) (.inr ⟨_,_,rfl,hr6⟩) (sG _) (by simp only[maxLen];omega) (by omega) (by omega)) ?_;rintro v7 g7 ⟨ho7,hx7,_,hv7⟩;refine cH 1 [0,3,4,5,6,43] rfl ?_;refine G.cn ?_;refine G.eE func3 rfl ?_;refine eW 1 rfl rfl (ak.cY rfl rfl ⟨by omega,by omega⟩) ?_;refine cH 1 [0,3,4,5,6,43] rfl ?_;have U':Km (i+1) Ht E (was++[E.s.text]):=by rw[<-hE];exact U'
           have S7:HD h g7 eb v7 (was++[E.s.text]) E:=⟨by rw[List.length_append,List.map_append];exact ho7,S6.ed.NP hx7 (fun y q=>(hv7 y q.symm).imp (fun q=>q.symm) (fun q=>q)) (fun y q=>ax.ty ho7 q.symm),iN S6.ext (hx7.mono fun y _ q=>(ax.lt S6.own q.symm).1)⟩
           exact ih (i+1,v7) _ _ ⟨rfl,rfl,rfl,rfl,trivial⟩ ⟨Ht,_,_,S7,U',I4.up (by omega),hil⟩ (by dsimp only;omega)
   · have T0:=U.time;refine ir rfl rfl ?_;refine aB rfl ?_;refine dY func3 1 rfl ?_;refine xp rfl (ak.cP underlying22 rfl) ?_;refine xp rfl (ak.jL rfl rfl ⟨by omega,by omega⟩) ?_;refine cH 1 [0,3,4,5,7,19] rfl ?_;refine G.block rfl rfl ?_;refine gj (σ:=Int) (fun k=>[(3,.pointer (some ⟨eb,0,none⟩)),(4,.slice wa was.length wc),(7,.int .i64 k)]) (fun k g'=>∃(m:Nat) (e':iP),k+1=m/\HD h g' eb (.slice wa was.length wc) was e'/\yy Hs (2*m) e'/\nG (80000*i+100*(i-m)) e'/\m<=i) (fun k=>(k+1).toNat) (((was.length:Nat):Int)-2) rfl ⟨rfl,rfl,rfl,trivial⟩ ⟨i,e0,by omega,S,T0,I.up (by omega),Nat.le_refl _⟩ ?_;rintro k g1 ⟨m,e',hkm,S1,T1,I1,hmi⟩ ih3;refine aB rfl ?_;refine ck func3 2 [3,4,7,80] rfl ?_;refine dz rfl rfl (fun hge=>?_) (fun hge=>?_)
     · obtain⟨m,rfl⟩:∃m',m=m'+1:=⟨m-1,by omega⟩
       have T2:=(show yy Hs (2*m+2) e' from T1).NM;have I2:=I1.HU false 2;have hu:=kJ S1.ed (cU 12 2) (.inl rfl) I1 (by omega);refine aM rfl ?_;refine aB rfl ?_;refine G.block rfl rfl ?_;refine dY func3 1 rfl ?_;refine xp rfl (az (H.sS _ _) rfl) ?_;refine xo rfl (ay.call (vs:=[_,_]) func7 rfl H.LS rfl (af.cD (hu))) ?_;rintro _ g2 ⟨K2,x2⟩;have S2:=S1.step (e':=fK e' false 2) K2 x2;obtain⟨y,hy⟩:∃y,was[m]? =some y:=⟨_,List.getElem?_eq_getElem (by omega)⟩
       obtain⟨cc,hH⟩:=U.at_ m y hy;have htx:=T2.text hH;obtain⟨b,o',cs,ha,_,hrow,rfl⟩:=S2.row.get m y hy;have hM:¬Array.size g2<=b:=by have:b<g2.size:=cy (hrow 0 _ rfl);omega
       have hst:=dw S2.ed I2.inv (by omega);refine xd [3,4,7,80] rfl ?_;refine aB rfl ?_;refine cG (fun b=>Array.size g2<=b) (fun i=>Nat.blt i 8) (sz:=8) (listed:= #[false,false,false,false,false,false,false,false]) func3 H.mixed rfl rfl rfl ?_;refine aO 0 1 (by kernel_rfl) rfl ?_;refine aO 3 9 (by kernel_rfl) rfl ?_;refine aO 4 25 (by kernel_rfl) rfl ?_;refine b9 5 57 (by kernel_rfl) rfl (fun h' e=>ak.bK underlying22 H.kF rfl rfl m (by omega) ha (by omega)) ?_;refine b9 6 121 (by kernel_rfl) rfl (fun h' e=>aq H.rm rfl (e.cell hM (hrow 0 _ rfl))) ?_;refine kf 1 123 (by kernel_rfl) rfl (ay.call (vs:=[_]) func8 rfl H.Kj rfl (af.cD (hst))) ?_;rintro _ g3 ⟨⟨_,_,_,_,_,_,_,_,_,_,_,_,rfl⟩,e3⟩;refine⟨fun _=>e3.of,?_⟩;refine b9 2 127 (by kernel_rfl) rfl (fun h' e=>ak.field (off:=0) underlying31 rfl rfl H.rm rfl rfl) ?_;refine b9 7 255 (by kernel_rfl) rfl (fun h' e=>ak.wD rfl rfl) ?_;refine RD.done (by kernel_rfl) ?_;refine xu [3,4,7,80,93] rfl ?_;refine aA rfl rfl (fun hc=>absurd hc (by simp[htx])) (fun _=>?_);refine aM rfl ?_;refine G.cn ?_;refine G.eE func3 rfl ?_;refine eW 1 rfl rfl (ak.jL rfl rfl ⟨by omega,by omega⟩) ?_;refine cH 1 [3,4,7,80,93] rfl ?_;exact ih3 (k-1) _ _ ⟨rfl,rfl,rfl,trivial⟩ ⟨m,_,by omega,S2.aj e3,T2,I2.up (by omega),by omega⟩ (by omega)
     · have hm0:m=0:=by omega
       subst hm0;have hb0:=T1.bells;refine ir rfl rfl ?_;refine aB rfl ?_;refine dY func3 1 rfl ?_;refine xo rfl (ay.call (vs:=[_]) func8 rfl H.Kj rfl (af.cD (dw S1.ed I1.inv (by omega)))) ?_;rintro _ g2 ⟨⟨_,_,_,_,_,_,_,_,_,_,_,_,rfl⟩,e2⟩;refine xp rfl (ak.field (off:=18) underlying31 rfl rfl H.gV rfl rfl) ?_;refine cH 1 [3,4,7,80,97] rfl ?_;refine aA rfl rfl (fun hc=>absurd hc (by simp[hb0])) (fun _=>?_);have S2:=S1.aj e2;refine aM rfl ?_;refine aB rfl ?_;refine ck func3 1 [3,4,7,8,80,97] rfl ?_;refine G.block rfl rfl ?_;refine gj (σ:=Nat) (fun t=>[(3,.pointer (some ⟨eb,0,none⟩)),(4,.slice wa was.length wc),(8,.int .i64 (t:Nat))]) (fun t g'=>∃(m:Nat) (e':iP),t=m+1/\HD h g' eb (.slice wa was.length wc) was e'/\yy Hs (2*m) e'/\nG (80000*i+100*i+100*m) e'/\m<=i) (fun t=>i+1-t) (1) rfl ⟨rfl,rfl,rfl,trivial⟩ ⟨0,e',rfl,S2,T1,I1.up (by omega),Nat.zero_le _⟩ ?_;rintro t g3 ⟨m,e',htm,S3,T3,I3,hmi⟩ ih4;subst htm;refine aB rfl ?_;refine dY func3 2 rfl ?_;refine xp rfl (ak.cP underlying22 rfl) ?_;refine cH 1 [3,4,8,101] rfl ?_;refine dz rfl rfl (fun hlt3=>?_) (fun hlt3=>?_)
       · have T4:=T3.Ob (by have:=U.hl;omega);have I4:=I3.HU true 2;have hu:=kJ S3.ed (cU 13 2) (.inr rfl) I3 (by omega);refine aM rfl ?_;refine aB rfl ?_;refine G.block rfl rfl ?_;refine dY func3 1 rfl ?_;refine xp rfl (az (H.sS _ _) rfl) ?_;refine xo rfl (ay.call (vs:=[_,_]) func7 rfl H.LS rfl (af.cD (hu))) ?_;rintro _ g4 ⟨K4,x4⟩;have S4:=S3.step (e':=fK e' true 2) K4 x4;obtain⟨y,hy⟩:∃y,was[m+1]? =some y:=⟨_,List.getElem?_eq_getElem (by omega)⟩
         obtain⟨cc,hH⟩:=U.at_ (m+1) y hy;have htx:=T4.text hH;obtain⟨b,o',cs,ha,_,hrow,rfl⟩:=S4.row.get (m+1) y hy;have hM:¬Array.size g4<=b:=by have:b<g4.size:=cy (hrow 0 _ rfl);omega
         have hst:=dw S4.ed I4.inv (by omega);refine xd [3,4,8,101] rfl ?_;refine aB rfl ?_;refine cG (fun b=>Array.size g4<=b) (fun i=>Nat.blt i 8) (sz:=8) (listed:= #[false,false,false,false,false,false,false,false]) func3 H.mixed rfl rfl rfl ?_;refine aO 0 1 (by kernel_rfl) rfl ?_;refine aO 3 9 (by kernel_rfl) rfl ?_;refine aO 4 25 (by kernel_rfl) rfl ?_;refine b9 5 57 (by kernel_rfl) rfl (fun h' e=>ak.bK underlying22 H.kF rfl rfl (m+1) rfl ha (by omega)) ?_;refine b9 6 121 (by kernel_rfl) rfl (fun h' e=>aq H.rm rfl (e.cell hM (hrow 0 _ rfl))) ?_;refine kf 1 123 (by kernel_rfl) rfl (ay.call (vs:=[_]) func8 rfl H.Kj rfl (af.cD (hst))) ?_;rintro _ g5 ⟨⟨_,_,_,_,_,_,_,_,_,_,_,_,rfl⟩,e5⟩;refine⟨fun _=>e5.of,?_⟩;refine b9 2 127 (by kernel_rfl) rfl (fun h' e=>ak.field (off:=0) underlying31 rfl rfl H.rm rfl rfl) ?_;refine b9 7 255 (by kernel_rfl) rfl (fun h' e=>ak.wD rfl rfl) ?_;refine RD.done (by kernel_rfl) ?_;refine xu [3,4,8,101,114] rfl ?_;refine aA rfl rfl (fun hc=>absurd hc (by simp[htx])) (fun _=>?_);refine aM rfl ?_;refine G.cn ?_;refine G.eE func3 rfl ?_;refine eW 1 rfl rfl (ak.cY rfl rfl ⟨by omega,by omega⟩) ?_;refine cH 1 [3,4,8,101,114] rfl ?_;exact ih4 (m+1+1) _ _ ⟨rfl,rfl,rfl,trivial⟩ ⟨m+1,_,rfl,S4.aj e5,T4,I4.up (by omega),by omega⟩ (by omega)
       · have hmi':m=i:=by omega
         subst hmi';have hb3:=T3.bells;have hr1:=T3.Oc (by have:=U.hl;omega);have I4:=I3.HU true 1;refine ir rfl rfl ?_;refine dY func3 1 rfl ?_;refine xo rfl (ay.call (vs:=[_]) func8 rfl H.Kj rfl (af.cD (dw S3.ed I3.inv (by omega)))) ?_;rintro _ g4 ⟨⟨_,_,_,_,_,_,_,_,_,_,_,_,rfl⟩,e4⟩;have S4:=S3.aj e4;have hu:=kJ S4.ed (cU 13 1) (.inr rfl) I3 (by omega);refine xp rfl (ak.field (off:=18) underlying31 rfl rfl H.gV rfl rfl) ?_;refine cH 1 [3,4,8,9,101] rfl ?_;refine dY func3 1 rfl ?_;refine xp rfl (az (H.sS _ _) rfl) ?_;refine xo rfl (ay.call (vs:=[_,_]) func7 rfl H.LS rfl (af.cD (hu))) ?_;rintro _ g5 ⟨K5,x5⟩;have S5:=S4.step (e':=fK e' true 1) K5 x5;refine xd [3,4,8,9,101] rfl ?_;refine aB rfl ?_;refine G.D3 (fun(u:Unit) (h':ai)=>an g5 h') (fun(u:Unit)=>[(2,.bool true)]) [(3,_),(4,_),(8,_),(9,_),(101,_)] ⟨rfl,rfl,rfl,rfl,rfl,trivial⟩ func3 rfl ?_ ?_
         · refine dX 3 rfl ?_;refine RW.dO (d:=123) (b':=true) rfl (decide_eq_true (by exact hb3)) ?_;refine dX 1 rfl ?_;refine xo rfl (ay.call (vs:=[_]) func8 rfl H.Kj rfl (af.cD (dw S5.ed I4.inv (by omega)))) ?_;rintro _ g6 ⟨⟨_,_,_,_,_,_,_,_,_,_,_,_,rfl⟩,e6⟩;refine xp rfl (ak.field (off:=18) underlying31 rfl rfl H.gV rfl rfl) ?_;refine dX 3 rfl ?_;refine RW.dO (d:=129) (b':=true) rfl (decide_eq_true (by exact hr1)) ?_;refine xo rfl (ay.call (vs:=[]) func5 rfl H.Pf rfl (af.cD (jy (hg.aj (S5.ext.trans e6))))) ?_;rintro _ g7 ⟨rfl,e7⟩;refine dX 2 rfl ?_;refine RW.done rfl ?_;exact⟨(),(e6.trans e7),au rfl (rfl),rfl,rfl,rfl,rfl,rfl,trivial⟩
         · rintro u h5 e5;refine cg func3 rfl rfl ?_;exact⟨_,rfl,rfl,S5.ext.trans e5⟩
end
end Go.Proofs.YtpjgdgdnbkjoiaaGreatDoor
