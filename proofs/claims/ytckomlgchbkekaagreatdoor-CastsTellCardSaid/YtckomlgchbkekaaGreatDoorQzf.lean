/- What the proof of the statement leans on (part 32). -/
import Derived.Lib.IndexBytes
import Derived.Lib.AtoiAll
import Derived.Test.YtckomlgchbkekaaGreatDoorQze

namespace Go.Proofs.YtckomlgchbkekaaGreatDoor
open Go Go.Lw
set_option maxRecDepth 20000
theorem G1:∀(a r:By) (c:UInt8),c∉a->Lib.indexByte (a++c::r) c=(a.length:Nat)
 | [],r,c,_=>by simp[Lib.indexByte]
 |b::a,r,c,h=>by
  have h1:¬b=c:=fun q=>h (by rw[q];exact List.mem_cons_self ..)
  have h2:=G1 a r c (fun q=>h (List.mem_cons_of_mem _ q))
  show (if (b ==c)=true then (0:Int) else if (Lib.indexByte (a++c::r) c == -1)=true then -1 else Lib.indexByte (a++c::r) c+1)=_
  rw[if_neg (by simpa using h1),h2,if_neg (by rw[beq_iff_eq];omega)];simp
def Jm (w:By):Int:=match Lib.atoiAll w with|.ok v=>v|.syntax=>0|.range=>Lib.atoiSat w
def IL (s:By):Int×Int:=(Jm (Lib.cut s [32]).1,Jm (Lib.cut s [32]).2.1)
def vE (s:By):By:=if s.drop (s.length-1)=[10] then s.take (s.length-1) else s
def fo:By->List By
 | []=>[]
 |x::r=>if x=10 then [10]::fo r else match fo r with| []=>[[x]] |l::t=>(x::l)::t
theorem oX:∀(a:By) (x:UInt8) (r:By),(∀y∈a,y≠10)->(x=10\/r=[])->fo (a++x::r)=(a++[x])::fo r
 | [],x,r,_,h=>by
  by_cases hx:x=10
  · subst hx;rfl
  · obtain rfl:=h.resolve_left hx
    show (if x=10 then _ else _)=_
    rw[if_neg hx];rfl
 |y::a,x,r,ha,h=>by
  have ih:=oX a x r (fun z hz=>ha z (List.mem_cons_of_mem _ hz)) h
  show (if y=10 then [10]::fo (a++x::r) else match fo (a++x::r) with| []=>[[y]] |l::t=>(y::l)::t)=_
  rw[if_neg (ha y (List.mem_cons_self ..)),ih];rfl
theorem sQ:∀(s:By) (c:UInt8),(Lib.indexByte s c= -1/\c∉s)\/∃a r,s=a++c::r/\c∉a/\Lib.indexByte s c=(a.length:Nat)
 | [],c=>.inl ⟨rfl,by simp⟩
 |b::s,c=>by
  by_cases hb:b=c
  · subst hb;exact .inr ⟨[],s,rfl,by simp,by simp[Lib.indexByte]⟩
  · rcases sQ s c with ⟨h,hn⟩|⟨a,r,rfl,hn,_⟩
    · refine .inl ⟨by unfold Lib.indexByte;rw[if_neg (by simpa using hb),h];rfl,fun q=>?_⟩
      rcases List.mem_cons.1 q with q|q
      · exact hb q.symm
      · exact hn q
    · have hn':c∉b::a:=fun q=>by
       rcases List.mem_cons.1 q with q|q
       · exact hb q.symm
       · exact hn q
      exact .inr ⟨b::a,r,rfl,hn',G1 (b::a) r c hn'⟩
theorem Cz {t:By}(h:t≠[]) (hn:(10:UInt8)∉t):fo t=t::fo []:=by
 obtain⟨a,x,rfl⟩:∃a x,t=a++[x]:=⟨t.dropLast,t.getLast h,(List.dropLast_concat_getLast h).symm⟩
 exact oX a x [] (fun y hy q=>hn (by rw[<-q];exact List.mem_append_left _ hy)) (.inr rfl)
theorem ES {a r:By}(hn:(10:UInt8)∉a):fo (a++10::r)=(a++[10])::fo r:=oX a 10 r (fun y hy q=>hn (by rw[<-q];exact hy)) (.inl rfl)
end Go.Proofs.YtckomlgchbkekaaGreatDoor
namespace Go.Proofs.YtckomlgchbkekaaGreatDoor
open Go.Proofs.Tryz
open Go Go.Lw
set_option maxRecDepth 20000 set_option maxHeartbeats 4000000
section
variable {h:ai}{s:By}{b:Nat}
def mK:Option By->By
 |none=>[]
 |some r=>59::r
theorem uB {l b1 b2 b3:Nat}{J:Option By->By->ai->Prop}{S:ai->Prop}(hread:∀t u h,J t u h->az h b1 9 [.string ⟨#[59]⟩]/\az h b2 9 [.string (bs u)]/\az h b3 3 [.int .i64 0])
 (hst:∀t u u' h h',J t u h->Ext (fun b=>b=b2) h h'->az h' b2 9 [.string (bs u')]->J t u' h')
 (hy:∀x r u h,59∉x->J (some (x++mK r)) u h->cV Tryz.prog l #[.string (bs x)] h (aN fun v h'=>∃go,v= .bool go/\(go=true->J r u h')/\(go=false->S h')))
 (hs:s.length<=100000) (h0:J (some s) s h) :
 aj Tryz.prog 295 #[.func (.yield l) #[] #[],.pointer (some ⟨b1,0,none⟩),.pointer (some ⟨b2,0,none⟩),.pointer (some ⟨b3,0,none⟩)] h (aN fun _ h'=>(∃u,J none u h')\/S h'):=by
 obtain⟨k1,k2,k3⟩:=hread _ _ _ h0;refine bf ?_;refine aa ?_;refine xp rfl (aA rfl (k1.cell (i:=0) rfl)) ?_;refine aa ?_;refine bV rfl (by decide) ?_;refine aa ?_;refine eR (σ:=By) (fun _=>[]) (fun t h'=>t.length<=100000/\J (some t) t h') (fun t=>t.length) (s) ⟨hs,h0⟩ rfl ?_;rintro t g ⟨hl,hJ⟩ ih;obtain⟨k1,k2,k3⟩:=hread _ _ g hJ;have hz:=aC t;refine aa ?_;refine xp rfl (aA rfl (k2.cell (i:=0) rfl)) ?_;refine xp rfl (aA rfl (k1.cell (i:=0) rfl)) ?_;refine xo rfl (aG rfl (yg (bs t) 59)) ?_;rintro _ g1 ⟨rfl,hg1⟩;subst hg1;rw[show Lib.indexByte (bs t).data.toList 59=Lib.indexByte t 59 from rfl]
 rcases sQ t 59 with ⟨hi,hn⟩|⟨a,r,he,hn,hi⟩
 · rw[hi];refine aa ?_;refine fH rfl (by decide) ?_;refine aI ?_;refine G.Cf func295 rfl ?_;refine aV.aB rfl rfl rfl rfl rfl (aD rfl) ?_;refine aV.aB rfl rfl rfl rfl rfl (bn H.Ov rfl (k2.cell (i:=0) rfl)) ?_;refine aV.yield (vs:=[_]) rfl rfl rfl rfl rfl rfl rfl ((hy t none t g1 hn (by rw[mK,List.append_nil];exact hJ))) ?_;rintro _ g2 ⟨go,rfl,q1,q2⟩;refine aX rfl ?_;refine gE ?_;refine⟨_,rfl,?_⟩;cases go with
   |true=>exact .inl ⟨_,q1 rfl⟩
   |false=>exact .inr (q2 rfl)
 · subst he;rw[hi];have hla:(a++59::r).length=a.length+1+r.length:=by simp;omega
   have hp1:(bs (a++59::r)).extract 0 a.length=bs a:=by rw[qV _ 0 _ (Nat.zero_le _),List.take_left' rfl,List.drop_zero]
   have hp2:(bs (a++59::r)).extract (a.length+1) (bs (a++59::r)).size=bs r:=by rw[iX];simp
   refine aa ?_;refine bV rfl (by first|(simp;done)|(simp;omega)) ?_;refine aa ?_;refine xp rfl (aA rfl (k2.cell (i:=0) rfl)) ?_;refine aa ?_;refine xp rfl (aA rfl (k3.cell (i:=0) rfl)) ?_;refine aa ?_;refine xp rfl (an.jM underlying9 rfl rfl a.length (by omega) (by omega)) ?_;refine aU ?_;refine bJ ?_
   iterate 2 refine aI ?_
   refine G.Cf func295 rfl ?_;refine aV.aB rfl rfl rfl rfl rfl (aD rfl) ?_;refine aV.aB rfl rfl rfl rfl rfl (aD rfl) ?_;refine aV.yield (vs:=[_]) rfl rfl rfl rfl rfl rfl rfl ((by rw[hp1];exact hy a (some r) (a++59::r) g1 hn hJ)) ?_;rintro _ g2 ⟨go,rfl,q1,q2⟩
   rcases Bool.eq_false_or_eq_true go with hgo|hgo
   · subst hgo;refine aV.aB rfl rfl rfl rfl rfl (an.se rfl) ?_;refine aX rfl ?_;refine bV rfl (by decide) ?_;obtain⟨k1',k2',k3'⟩:=hread _ _ g2 (q1 rfl);refine aa ?_;refine xp rfl (aA rfl (k2'.cell (i:=0) rfl)) ?_;refine aa ?_;refine xp rfl (aA rfl (k1'.cell (i:=0) rfl)) ?_;refine aU ?_;refine xp rfl (an.dZ rfl rfl ⟨by omega,by have h1:(⟨#[59]⟩:ByteArray).size=1:=rfl;omega⟩) ?_;refine xp rfl (an.dB underlying9 rfl rfl (a.length+1) (by rfl) (by omega)) ?_;rw[hp2];refine aY rfl (b7 rfl rfl k2') ?_;rintro _ g3 ⟨rfl,k4,x3,z3⟩;refine aa ?_;exact ih r ⟨by omega,hst _ _ _ _ _ (q1 rfl) x3 k4⟩ (by rw[hla];omega)
   · subst hgo;refine aV.aB rfl rfl rfl rfl rfl (an.se rfl) ?_;refine aX rfl ?_;refine fH rfl (by decide) ?_;refine aW ?_;exact⟨_,rfl,.inr (q2 rfl)⟩
theorem K6 {l:By}{x:UInt8}(hl:l[0]? =some x) (h:128<=x.toNat):128<=ij l:=by
 have hg:l.getD 0 0=x:=by rw[List.getD_eq_getElem?_getD,hl];rfl
 unfold ij Lib.decodeN;rw[hg]
 repeat' split
 all_goals first|omega|(dsimp only;omega)
theorem Nl:∀c:Nat,c<256->48<=c->IntKind.i32.wrap ((c:Int)-48)=((c-48:Nat):Int):=by decide +kernel
abbrev CN (n:Int):Value:=.int .i64 n
def Ol:Option By->Nat
 |none=>0
 |some t=>t.length+1
def OM (s:By) (xs:List Int):Option By->Prop
 |none=>eo s 0=some xs
 |some t=>eo s 0=(eo t 0).map (xs++ ·)
theorem FU {x:By}{r:Option By}{xs:List Int}{v:Nat}(h:OM s xs (some (x++mK r))) (hx:eo (x++mK r) 0=eo (mK r) v):OM s (xs++[(v:Int)]) r:=by
 have h:eo s 0=(eo (x++mK r) 0).map (xs++ ·):=h;rw[hx] at h;cases r with
 |none=>exact h
 |some r =>
  show eo s 0=(eo r 0).map (xs++[(v:Int)]++ ·)
  rw[h]
  show ((eo (59::r) v).map (xs++ ·))=_
  rw[eo,if_pos (show UInt8.toNat 59=59 from rfl),Option.map_map]
  congr 1
  funext l
  simp
theorem FX (x:By) (r:Option By):Ol r+1<=Ol (some (x++mK r)):=by
 cases r with
 |none=>show 0+1<=_+1;omega
 |some r=>show r.length+1+1<=(x++59::r).length+1;rw[List.length_append,List.length_cons];omega
structure LP (h4:ai) (ob b:Nat) (s:By) (t:Option By) (u:By) (g:ai):Prop where
 w:∃w xs,az g ob 117 [w]/\bF CN g (h4.size+2) 3 w xs/\xs.length+Ol t<=s.length+1/\OM s xs t
 k1:az g (b+1) 9 [.string ⟨#[59]⟩]
 k2:az g b 9 [.string (bs u)]
 k3:az g (b+2) 3 [.int .i64 0]
 x:Ext (fun c=>c=ob\/c=b) h4 g
theorem LP.st {h4:ai}{ob:Nat}{u u':By}{t:Option By}{g1 g2:ai}(k:LP h4 ob b s t u g1) (x:Ext (fun c=>c=h4.size+1\/c=b) g1 g2) (hu:az g2 b 9 [.string (bs u')]) (ho:ob<b) (hb:b+2<h4.size):LP h4 ob b s t u' g2:=by
 obtain⟨⟨w,xs,a1,a2,a7⟩,a3,a4,a5,a6⟩:=k;exact⟨⟨w,xs,a1.ext x (by omega),ay.ext x a2 (fun b hb q=>by have:=(ay.lt a2 hb).1;omega),a7⟩,a3.ext x (by omega),hu,a5.ext x (by omega),⟨Nat.le_trans a6.size x.size,fun c hc hm=>(x.block c (Nat.lt_of_lt_of_le hc a6.size) (by omega)).trans (a6.block c hc hm)⟩⟩
structure LN (h4:ai) (lb fb ob b:Nat) (s:By) (g:ai):Prop where
 l:az g lb 117 [.slice none 0 0]
 f:az g fb 4 [.bool false]
 q:eo s 0=none
 x:Ext (fun c=>c=ob\/c=b\/c=lb\/c=fb) h4 g
theorem LN.st {h4:ai}{lb fb ob:Nat}{g1 g2:ai}(k:LN h4 lb fb ob b s g1) (x:Ext (fun c=>c=h4.size\/c=h4.size+1) g1 g2) (h1:lb<h4.size/\fb<h4.size):LN h4 lb fb ob b s g2:=by
 obtain⟨a1,a2,a3,a6⟩:=k;exact⟨a1.ext x (by omega),a2.ext x (by omega),a3,⟨Nat.le_trans a6.size x.size,fun c hc hm=>(x.block c (Nat.lt_of_lt_of_le hc a6.size) (by omega)).trans (a6.block c hc hm)⟩⟩
theorem uG (s:By) (hs:s.length<=100000):aj Tryz.prog 136 #[.string (bs s)] h (aN fun r h'=>(∃v,r= .tuple #[v,.bool (rW s).isSome]/\v.oneCell'=true/\aR Bc h' (fun b=>b<h.size) v ((rW s).getD []))/\ah h h'):=by
 have hbs:=aC s;unfold rW;refine bf ?_;refine aa ?_;refine xo rfl (cC) ?_;rintro _ h1 ⟨rfl,c2,e1,z1⟩;refine xo rfl (cC) ?_;rintro _ h2 ⟨rfl,c3,e2,z2⟩;have c2:az h2 h.size 117 [.slice none 0 0]:=c2.af e2;have c3:az h2 h1.size 4 [.bool false]:=c3;refine aa ?_;refine aQ (fun q0=>?_) (fun q0=>?_)
 · obtain rfl:s=[]:=List.length_eq_zero_iff.1 (by rw[<-hbs,q0];rfl);rw[if_pos rfl];refine aa ?_;refine aY rfl (b7 rfl rfl c2) ?_;rintro _ h3 ⟨rfl,k3,x3,z3⟩;refine aY rfl (b7 rfl rfl ((c3.ext x3 (by omega)))) ?_;rintro _ h4 ⟨rfl,k4,x4,z4⟩;refine aa ?_;refine fG (OB rfl ((k3.ext x4 (by omega)).cell (i:=0) rfl) (OB rfl (k4.cell (i:=0) rfl) fF)) ?_;exact⟨_,rfl,⟨_,rfl,rfl,aR.nil _ _ _⟩,ah.only (ah.only (e1.trans e2) x3 (Nat.le_refl _)) x4 e1.size⟩
 · have hs0:s≠[]:=by rintro rfl;exact q0 rfl
   rw[if_neg hs0];refine aa ?_;refine xo rfl (cC) ?_;rintro _ h3 ⟨rfl,k4,e3,z3⟩;refine aa ?_;refine xo rfl (aG rfl (rG (bs s))) ?_;rintro _ h4 ⟨rfl,kb2,kb1,kb3,e4,z4⟩;have k4:az h4 h2.size 117 [.slice none 0 0]:=k4.af e4;have e24:=e3.trans e4;have e04:=(e1.trans e2).trans e24;have ho:h2.size<h3.size:=by omega
   have hb4:h3.size+2<h4.size:=by omega
   have hord:h.size<h4.size/\h1.size<h4.size:=by omega
   refine aa ?_
   refine G.Gq (assign:=FG (Lw.sub (aq f136) [0,1,0,1,1,1])) (body:=FF (Lw.sub (aq f136) [0,1,0,1,1,1])) (fun g'=>∃u,LP h4 h2.size h3.size s none u g') (LN h4 h.size h1.size h2.size h3.size s) func136 rfl rfl func295 rfl (by decide +kernel) (fun fid tmps hL hfits eL R0=>?_) (fun g2 g3 hJ hdf hlt x=>?_) (fun g2 g3 hS hlt x=>by
    obtain⟨a1,a2,a3,a6⟩:=hS.st x hord;exact⟨_,.cons (cX.cell (t:=117) (by kernel_rfl) rfl (a1.cell (i:=0) rfl)) (.cons (cX.cell (t:=4) (by kernel_rfl) rfl (a2.cell (i:=0) rfl)) .nil),_,rfl,⟨.slice none 0 0,by rw[a3];rfl,rfl,by rw[a3];exact aR.nil _ _ _⟩,⟨Nat.le_trans e04.size a6.size,fun b hb _=>(a6.block b (by have:=e04.size;omega) (by omega)).trans (e04.block b hb (fun q=>q))⟩⟩)
   skip
   · refine(uB (l:=h4.size+1) (b1:=h3.size+1) (b2:=h3.size) (b3:=h3.size+2) (J:=fun t u g'=>wE h4.size (bK fid tmps #[13] (FG (Lw.sub (aq f136) [0,1,0,1,1,1])) (FF (Lw.sub (aq f136) [0,1,0,1,1,1])) h4.size) (LP h4 h2.size h3.size s t u) g') (S:=fun g'=>wE h4.size (nJ (bK fid tmps #[13] (FG (Lw.sub (aq f136) [0,1,0,1,1,1])) (FF (Lw.sub (aq f136) [0,1,0,1,1,1])) h4.size)) (LN h4 h.size h1.size h2.size h3.size s) g') (fun t u g q=>⟨q.j.k1,q.j.k2,q.j.k3⟩) (fun t u u' g g' q x k=>Gk q x (by omega) (q.j.st (x.mono fun _ _ y=>.inr y) k ho hb4)) (fun y r u g hn q=>?_) hs ⟨R0.lp,R0.df,⟨⟨_,[],k4.af eL,bF.nil _ _ _ _,by show 0+(s.length+1)<=_;omega,by show eo s 0=(eo s 0).map ([]++ ·);simp⟩,kb1.af eL,kb2.af eL,kb3.af eL,eL.mono fun _ _ q=>q.elim⟩⟩).ret fun _ _ q=>q.imp (fun⟨u,k⟩=>⟨k.lp,k.df,u,k.j⟩) id
     refine q.yield (J':=LP h4 h2.size h3.size s r u) (S:=LN h4 h.size h1.size h2.size h3.size s) rfl rfl rfl (om hfits rfl) rfl rfl (fun g1 g2 k x=>k.st (x.mono fun _ _ q=>.inl q) (k.k2.ext x (by omega)) ho hb4) (fun g1 g2 k x=>k.st (x.mono fun _ _ q=>.inr q) hord) ?_;refine GI.eE func136 rfl ?_;refine aV.aB rfl rfl rfl rfl rfl (an.assign rfl) ?_;refine aX rfl ?_;refine⟨av _ _,fun g3 x3=>?_⟩;obtain⟨⟨w,xs,kw,hw,hlen,hto⟩,a3,a4,a5,eg⟩:=q.j.st (x3.mono fun _ _ y=>.inl y) (q.j.k2.ext x3 (by omega)) ho hb4;have hlt:=q.lp.lt;have hz3:=x3.size;have zeg:=eg.size;have htl:=FX y r;have hys:=aC y;have hto':eo s 0=(eo (y++mK r) 0).map (xs++ ·):=hto;have c2g:az g3 h.size 117 [.slice none 0 0]:=(c2.af e24).ext eg (by omega);have c3g:az g3 h1.size 4 [.bool false]:=(c3.af e24).ext eg (by omega);refine GI.block rfl rfl ?_;refine GI.seq rfl ?_;refine GI.eE func136 rfl ?_;refine aV.aB rfl rfl rfl rfl rfl (an.assign rfl) ?_;refine aX rfl ?_;refine GI.sub (ρ':=[(0,_),(2,_),(3,_),(4,_),(5,_),(6,_),(10,_),(12,_),(13,_)]) ⟨rfl,rfl,rfl,rfl,rfl,rfl,rfl,rfl,rfl,trivial⟩ ?_;refine GI.seq rfl ?_;refine GI.seq rfl ?_;refine GI.eE func136 rfl ?_;refine aV.aB rfl rfl rfl rfl rfl (aD rfl) ?_;refine aV.r9 rfl rfl rfl rfl rfl (aH.rT underlying9 rfl) ?_;rintro _ g4 ⟨rfl,i1,e4',z4'⟩;refine aX rfl ?_;refine GI.sub (ρ':=[(0,_),(2,_),(3,_),(4,_),(5,_),(6,_),(10,_),(12,_),(13,_),(15,_)]) ⟨rfl,rfl,rfl,rfl,rfl,rfl,rfl,rfl,rfl,rfl,trivial⟩ ?_;refine GI.block rfl rfl ?_;refine GI.loop (σ:=Nat×Nat) (fun p=>[(2,.pointer (some ⟨h.size,0,none⟩)),(3,.pointer (some ⟨h1.size,0,none⟩)),(4,.pointer (some ⟨h2.size,0,none⟩)),(6,.int .i64 (p.2:Nat)),(15,.pointer (some ⟨g3.size,0,none⟩))]) (fun p g'=>p.1<=y.length/\p.2<=9999/\eo (y++mK r) 0=eo (y.drop p.1++mK r) p.2/\fQ g' g3.size (bs y) p.1/\Ext (fun b=>g3.size<=b) g3 g') (fun p=>y.length-p.1) ((0,0)) rfl ⟨rfl,rfl,rfl,rfl,rfl,trivial⟩ ⟨Nat.zero_le _,by decide,rfl,i1,e4'.mono fun _ _ q=>q.elim⟩ ?_;rintro⟨i,v⟩ g5 ⟨hi,hv,hq,hI,x5⟩ K ih
     try dsimp only
     dsimp only at hi hv hq hI;have zx5:=x5.size
     by_cases hlt2:i<y.length
     · obtain⟨c,hc⟩:∃c,y[i]? =some c:=⟨_,List.getElem?_eq_getElem hlt2⟩
       have hc0:(y.drop i)[0]? =some c:=by rw[List.getElem?_drop,Nat.add_zero];exact hc
       have hdr:y.drop i=c::y.drop (i+1):=by rw[List.drop_eq_getElem_cons hlt2];congr 1;rw[List.getElem?_eq_getElem hlt2] at hc;exact Option.some.inj hc
       have hc59:¬c.toNat=59:=fun q=>hn (by rw[show (59:UInt8)=c from UInt8.toNat_inj.1 q.symm];exact List.mem_of_getElem? hc)
       rw[hdr,List.cons_append,eo,if_neg hc59] at hq;have hcl:=c.toNat_lt;refine GI.seq rfl ?_;refine GI.eE func136 rfl ?_;refine aV.r9 rfl rfl rfl rfl rfl (aH.xS rfl (hI) ((by omega))) ?_;rintro _ g6 ⟨rfl,i2,x2,z2⟩;rw[CU] at *;dsimp only at *;refine aV.aB rfl rfl rfl rfl rfl (an.extract rfl rfl) ?_;refine aX rfl ?_;refine GI.sub (ρ':=[(2,_),(3,_),(4,_),(6,_),(15,_),(16,_),(17,_)]) ⟨rfl,rfl,rfl,rfl,rfl,rfl,rfl,trivial⟩ ?_;refine GI.seq rfl ?_;refine GI.cond rfl rfl (fun _=>?_) (fun hc=>absurd hc (by simp))
       by_cases hdg:48<=c.toNat/\c.toNat<=57
       · rw[if_pos hdg] at hq;obtain⟨d1,d2⟩:=qX hc0 (by omega);rw[d1];rw[d2] at i2;refine GI.skip rfl ?_;refine GI.block rfl rfl ?_;refine GI.seq rfl ?_;refine GI.eE func136 rfl ?_;refine aV.aB rfl rfl rfl rfl rfl (an.extract rfl rfl) ?_;refine aV.aB rfl rfl rfl rfl rfl (an.assign rfl) ?_;refine aX rfl ?_;refine GI.sub (ρ':=[(2,_),(3,_),(4,_),(6,_),(8,_),(15,_),(16,_),(17,_)]) ⟨rfl,rfl,rfl,rfl,rfl,rfl,rfl,rfl,trivial⟩ ?_;refine GI.seq rfl ?_;refine GI.seq rfl ?_;refine GI.eE func136 rfl ?_;refine aV.aB rfl rfl rfl rfl rfl (aD rfl) ?_;refine aV.aB rfl rfl rfl rfl rfl (zu rfl rfl) ?_;refine aV.aB rfl rfl rfl rfl rfl (aD rfl) ?_;refine aV.aO (d:=21) (b':=false) rfl (decide_eq_false (by omega)) ?_;refine aV.rU rfl rfl rfl rfl rfl (aD rfl) ?_;refine aV.rU rfl rfl rfl rfl rfl (ri rfl rfl) ?_;refine aV.aB rfl rfl rfl rfl rfl (an.DK rfl rfl) ?_;refine aX rfl ?_;refine GI.sub (ρ':=[(2,_),(3,_),(4,_),(6,_),(8,_),(15,_),(16,_),(17,_),(24,_)]) ⟨rfl,rfl,rfl,rfl,rfl,rfl,rfl,rfl,rfl,trivial⟩ ?_;refine GI.cond rfl rfl (fun hc=>absurd hc (by simp;omega)) (fun _=>?_);have f3:=Nl c.toNat c.toNat_lt hdg.1;refine GI.skip rfl ?_;refine GI.eE func136 rfl ?_;refine aV.aB rfl rfl rfl rfl rfl (aD rfl) ?_;refine aV.aB rfl rfl rfl rfl rfl (an.dK rfl rfl ⟨by omega,by omega⟩) ?_;refine aV.aB rfl rfl rfl rfl rfl (aD rfl) ?_;refine aV.aB rfl rfl rfl rfl rfl (an.sub rfl rfl) ?_;refine aV.aB rfl rfl rfl rfl rfl (an.Hx underlying21 underlying3 rfl (by rw[f3];exact wrap_i64 ⟨by omega,by omega⟩)) ?_;refine aV.aB rfl rfl rfl rfl rfl (an.dZ rfl rfl ⟨by omega,by omega⟩) ?_;refine aV.aB rfl rfl rfl rfl rfl (an.min2 rfl rfl) ?_;refine aV.aB rfl rfl rfl rfl rfl (an.assign rfl) ?_;refine aX rfl ?_;exact ih (i+1,min (10*v+(c.toNat-48)) 9999) _ _ ⟨rfl,rfl,rfl,congrArg (fun x:Int=>some (Value.int .i64 x)) (by rw[f3];split<;>omega),rfl,trivial⟩ ⟨by omega,by omega,hq,i2,x5.trans (x2.mono fun b _ q=>by omega)⟩ (by show y.length-(i+1)<y.length-i;omega)
       · rw[if_neg hdg] at hq;have hnone:eo s 0=none:=by rw[hto',hq];rfl
         have hx:ij (y.drop i)<48\/57<ij (y.drop i):=by
          by_cases h8:c.toNat<128
          · rw[(qX hc0 h8).1];omega
          · have:=K6 hc0 (by omega);omega
         generalize ij (y.drop i)=xv at *;have x6:Ext (fun b=>g3.size<=b) g3 g6:=x5.trans (x2.mono fun b _ q=>by omega);have c26:=c2g.ext x6 (by omega);have c36:=c3g.ext x6 (by omega);refine GI.skip rfl ?_;refine GI.block rfl rfl ?_;refine GI.seq rfl ?_;refine GI.eE func136 rfl ?_;refine aV.aB rfl rfl rfl rfl rfl (an.extract rfl rfl) ?_;refine aV.aB rfl rfl rfl rfl rfl (an.assign rfl) ?_;refine aX rfl ?_;refine GI.sub (ρ':=[(2,_),(3,_),(4,_),(6,_),(8,_),(15,_),(16,_),(17,_)]) ⟨rfl,rfl,rfl,rfl,rfl,rfl,rfl,rfl,trivial⟩ ?_;refine GI.seq rfl ?_;refine GI.seq rfl ?_;refine GI.eE func136 rfl ?_;refine aV.aB rfl rfl rfl rfl rfl (aD rfl) ?_;refine aV.aB rfl rfl rfl rfl rfl (zu rfl rfl) ?_;refine aV.aB rfl rfl rfl rfl rfl (aD rfl) ?_;refine FC (d:=21) rfl (fun g1=>?_) (fun g1=>?_)
         · refine aV.mG rfl rfl rfl rfl ?_;refine aV.mG rfl rfl rfl rfl ?_;refine aV.aB rfl rfl rfl rfl rfl (an.J0 rfl rfl) ?_;refine aX rfl ?_;refine GI.sub (ρ':=[(2,_),(3,_),(4,_),(6,_),(8,_),(15,_),(16,_),(17,_),(24,_)]) ⟨rfl,rfl,rfl,rfl,rfl,rfl,rfl,rfl,rfl,trivial⟩ ?_;refine GI.cond rfl rfl (fun _=>?_) (fun hc=>absurd hc (by decide));refine GI.seq rfl ?_;refine GI.eE func136 rfl ?_;refine aV.mL rfl rfl rfl rfl (aH.br H.kK rfl rfl c26 (by first|decide|exact of_decide_eq_true rfl|(simp;done)|(simp;omega)) rfl) ?_;rintro _ y2 ⟨rfl,m2,w2,v2⟩;refine aV.mL rfl rfl rfl rfl (aH.br H.zC rfl rfl (c36.ext w2 (by omega)) (by first|decide|exact of_decide_eq_true rfl|(simp;done)|(simp;omega)) rfl) ?_;rintro _ y3 ⟨rfl,m3,w3,v3⟩;refine aX rfl ?_;refine GI.sub (ρ':=[(2,_),(3,_),(4,_),(6,_),(8,_),(15,_),(16,_),(17,_),(24,_)]) ⟨rfl,rfl,rfl,rfl,rfl,rfl,rfl,rfl,rfl,trivial⟩ ?_;refine GI.ret rfl ?_;have X:Ext (fun b=>b=h.size\/b=h1.size\/g3.size<=b) g3 y3:=((x6.mono (M':=fun b=>b=h.size\/b=h1.size\/g3.size<=b) fun b _ q=>by omega).trans (w2.mono fun b _ q=>.inl q)).trans (w3.mono fun b _ q=>.inr (.inl q));exact⟨⟨X.block _ (by omega) (by omega),X.block _ (by omega) (by omega)⟩,.inr ⟨rfl,⟨m2.ext w3 (by omega),m3,hnone,⟨Nat.le_trans zeg X.size,fun b hb hm=>(X.block b (by omega) (by omega)).trans (eg.block b hb (by omega))⟩⟩⟩⟩
         · have g1:=of_decide_eq_false g1;refine aV.rU rfl rfl rfl rfl rfl (aD rfl) ?_;refine aV.rU rfl rfl rfl rfl rfl (ri rfl rfl) ?_;refine aV.aB rfl rfl rfl rfl rfl (an.DK rfl rfl) ?_;refine aX rfl ?_;refine GI.sub (ρ':=[(2,_),(3,_),(4,_),(6,_),(8,_),(15,_),(16,_),(17,_),(24,_)]) ⟨rfl,rfl,rfl,rfl,rfl,rfl,rfl,rfl,rfl,trivial⟩ ?_;refine GI.cond rfl rfl (fun _=>?_) (fun hc=>absurd hc (by simp;omega));refine GI.seq rfl ?_;refine GI.eE func136 rfl ?_;refine aV.mL rfl rfl rfl rfl (aH.br H.kK rfl rfl c26 (by first|decide|exact of_decide_eq_true rfl|(simp;done)|(simp;omega)) rfl) ?_;rintro _ y2 ⟨rfl,m2,w2,v2⟩;refine aV.mL rfl rfl rfl rfl (aH.br H.zC rfl rfl (c36.ext w2 (by omega)) (by first|decide|exact of_decide_eq_true rfl|(simp;done)|(simp;omega)) rfl) ?_;rintro _ y3 ⟨rfl,m3,w3,v3⟩;refine aX rfl ?_;refine GI.sub (ρ':=[(2,_),(3,_),(4,_),(6,_),(8,_),(15,_),(16,_),(17,_),(24,_)]) ⟨rfl,rfl,rfl,rfl,rfl,rfl,rfl,rfl,rfl,trivial⟩ ?_;refine GI.ret rfl ?_;have X:Ext (fun b=>b=h.size\/b=h1.size\/g3.size<=b) g3 y3:=((x6.mono (M':=fun b=>b=h.size\/b=h1.size\/g3.size<=b) fun b _ q=>by omega).trans (w2.mono fun b _ q=>.inl q)).trans (w3.mono fun b _ q=>.inr (.inl q));exact⟨⟨X.block _ (by omega) (by omega),X.block _ (by omega) (by omega)⟩,.inr ⟨rfl,⟨m2.ext w3 (by omega),m3,hnone,⟨Nat.le_trans zeg X.size,fun b hb hm=>(X.block b (by omega) (by omega)).trans (eg.block b hb (by omega))⟩⟩⟩⟩
     · obtain rfl:i=y.length:=by omega
       rw[List.drop_length,List.nil_append] at hq;refine GI.seq rfl ?_;refine GI.eE func136 rfl ?_;refine aV.r9 rfl rfl rfl rfl rfl (aH.xT rfl (hI) ((by omega))) ?_;rintro _ g6 ⟨rfl,rfl⟩;refine aV.aB rfl rfl rfl rfl rfl (an.extract rfl rfl) ?_;refine aX rfl ?_;refine GI.sub (ρ':=[(2,_),(3,_),(4,_),(6,_),(15,_),(16,_),(17,_)]) ⟨rfl,rfl,rfl,rfl,rfl,rfl,rfl,trivial⟩ ?_;refine GI.seq rfl ?_;refine GI.cond rfl rfl (fun hc=>absurd hc (by simp)) (fun _=>?_);have kw5:=kw.ext x5 (by omega);have hw5:=ay.ext x5 hw (fun b hb q=>by have:=(ay.lt hw hb).2;omega);refine GI.exit rfl rfl ?_;refine GI.eE func136 rfl ?_;refine aV.aB rfl rfl rfl rfl rfl (bn H.D9 rfl (kw5.cell (i:=0) rfl)) ?_;refine aV.aB rfl rfl rfl rfl rfl (aD rfl) ?_;refine aV.r9 rfl rfl rfl rfl rfl (aH.pq (us:=[_]) underlying117 H.Ld rfl rfl (by decide) (by simp[Value.oneCell'])) ?_;rintro _ _ ⟨rfl,rfl⟩;refine aV.r9 rfl rfl rfl rfl rfl (aH.dO underlying117 H.Ld rfl rfl (hw5) rfl rfl (by first|decide|simp[Value.oneCell']) (by omega) (by decide) (by omega)) ?_;rintro v8 g8 ⟨ho8,hx8,_,hv8⟩;obtain⟨wa,wc,rfl,_⟩:=ay.open ho8;have kw8:=kw5.ext hx8 (fun q=>by have:=(ay.lt hw5 q.symm).1;omega);refine aV.mL rfl rfl rfl rfl (aH.br H.kK rfl rfl kw8 (by first|decide|exact of_decide_eq_true rfl|(simp;done)|(simp;omega)) rfl) ?_;rintro _ g9 ⟨rfl,k9,x9,z9⟩;refine aX rfl ?_;have hz8:=hx8.size;have X:Ext (fun b=>b=h2.size\/h4.size+2<=b) g3 g9:=((x5.mono fun b _ q=>.inr (by omega)).trans (hx8.mono fun b _ q=>.inr (ay.lt hw5 q.symm).1)).trans (x9.mono fun b _ q=>.inl q);exact⟨⟨X.block _ (by omega) (by omega),X.block _ (by omega) (by omega)⟩,.inl ⟨rfl,⟨⟨_,xs++[(v:Int)],k9,ay.ext x9 (bF.of (ys:=[(v:Int)]) ho8 rfl rfl rfl) (fun b hb q=>by have:=(ay.lt ho8 hb).1;omega),by rw[List.length_append];show xs.length+1+Ol r<=_;omega,FU hto hq⟩,a3.ext X (by omega),a4.ext X (by omega),a5.ext X (by omega),by have:=X.size;omega,fun b hb hm=>(X.block b (by omega) (by omega)).trans (eg.block b hb hm)⟩⟩⟩
   · obtain⟨u,hJ⟩:=hJ;obtain⟨⟨w,xs,kw,hw,hlen,hto⟩,a3,a4,a5,eg⟩:=hJ.st (x.mono fun _ _ y=>.inl y) (hJ.k2.ext x (by omega)) ho hb4;have hto:eo s 0=some xs:=hto;rw[hto];have zx:=x.size;have zeg:=eg.size;obtain⟨wa,wc,rfl,_⟩:=ay.open hw;have z02:=e2.size;have z01:=e1.size;have c2g:=(c2.af e24).ext eg (by omega);have c3g:=(c3.af e24).ext eg (by omega);have hm4:g3[h4.size]? =some (.deferred (some [])):=(x.block h4.size (by omega) (by omega)).trans hdf;have E0:ah h g3:=⟨Nat.le_trans e04.size zeg,fun b hb _=>(eg.block b (by have:=e04.size;omega) (by omega)).trans (e04.block b hb (fun q=>q))⟩
     refine GD.gr ?_;refine GD.seq rfl ?_;refine GD.seq rfl ?_;refine GD.eE func136 rfl ?_;refine fE.aB rfl rfl rfl rfl (bn H.D9 rfl (kw.cell (i:=0) rfl)) ?_;refine fE.aB rfl rfl rfl rfl (an.gO underlying117 rfl) ?_;refine fE.aB rfl rfl rfl rfl (ri rfl rfl) ?_;refine eD rfl ?_;refine GD.sub (ρ':=[(0,_),(2,_),(3,_),(4,_),(10,_),(12,_),(38,_)]) ⟨rfl,rfl,rfl,rfl,rfl,rfl,rfl,trivial⟩ ?_;refine Ia rfl rfl (fun hq=>?_) (fun hq=>?_)
     · have hnl:((some xs).bind fun l:List Int=>if l.length<=16 then some l else none)=none:=if_neg (by omega);rw[hnl];refine GD.seq rfl ?_;refine GD.eE func136 rfl ?_;refine fE.mL rfl rfl rfl (aH.br H.kK rfl rfl c2g (by first|decide|exact of_decide_eq_true rfl|(simp;done)|(simp;omega)) rfl) ?_;rintro _ g4 ⟨rfl,k5,x5,z5⟩;refine fE.mL rfl rfl rfl (aH.br H.zC rfl rfl (c3g.ext x5 (by omega)) (by first|decide|exact of_decide_eq_true rfl|(simp;done)|(simp;omega)) rfl) ?_;rintro _ g5 ⟨rfl,k6,x6,z6⟩;refine eD rfl ?_;refine GD.sub (ρ':=[(0,_),(2,_),(3,_),(4,_),(10,_),(12,_),(38,_)]) ⟨rfl,rfl,rfl,rfl,rfl,rfl,rfl,trivial⟩ ?_;have k5:=k5.ext x6 (by omega)
       have hdf5:g5[h4.size]? =some (.deferred (some [])):=by
        rw[x6.block h4.size (by omega) (by omega),x5.block h4.size (by omega) (by omega)];exact hm4
       have x7:Ext (fun b=>b=h4.size) g5 (Lw.bA g5 h4.size (.deferred none)):=Ext.bA _ _ _ rfl;have k57:=k5.ext x7 (by omega);have k67:=k6.ext x7 (by omega);refine GD.nS func136 rfl hdf5 (.cons (cX.cell (t:=117) (by kernel_rfl) rfl (k57.cell (i:=0) rfl)) (.cons (cX.cell (t:=4) (by kernel_rfl) rfl (k67.cell (i:=0) rfl)) .nil)) ?_;exact⟨_,rfl,⟨.slice none 0 0,rfl,rfl,aR.nil _ _ _⟩,ah.only (ah.only (ah.only E0 x5 (by omega)) x6 (by omega)) x7 (by omega)⟩
     · have hnl:((some xs).bind fun l:List Int=>if l.length<=16 then some l else none)=some xs:=if_pos (by omega);rw[hnl];refine Eh rfl ?_;refine GD.seq rfl ?_;refine GD.eE func136 rfl ?_;refine fE.aB rfl rfl rfl rfl (bn H.D9 rfl (kw.cell (i:=0) rfl)) ?_;refine fE.mL rfl rfl rfl (aH.br H.kK rfl rfl c2g (by first|decide|exact of_decide_eq_true rfl|(simp;done)|(simp;omega)) rfl) ?_;rintro _ g4 ⟨rfl,k5,x5,z5⟩;refine fE.mL rfl rfl rfl (aH.br H.zC rfl rfl (c3g.ext x5 (by omega)) (by first|decide|exact of_decide_eq_true rfl|(simp;done)|(simp;omega)) rfl) ?_;rintro _ g5 ⟨rfl,k6,x6,z6⟩;refine eD rfl ?_;refine GD.sub (ρ':=[(0,_),(2,_),(3,_),(4,_),(10,_),(12,_),(38,_)]) ⟨rfl,rfl,rfl,rfl,rfl,rfl,rfl,trivial⟩ ?_;have k5:=k5.ext x6 (by omega)
       have hdf5:g5[h4.size]? =some (.deferred (some [])):=by
        rw[x6.block h4.size (by omega) (by omega),x5.block h4.size (by omega) (by omega)];exact hm4
       have x7:Ext (fun b=>b=h4.size) g5 (Lw.bA g5 h4.size (.deferred none)):=Ext.bA _ _ _ rfl;have k57:=k5.ext x7 (by omega);have k67:=k6.ext x7 (by omega);refine GD.nS func136 rfl hdf5 (.cons (cX.cell (t:=117) (by kernel_rfl) rfl (k57.cell (i:=0) rfl)) (.cons (cX.cell (t:=4) (by kernel_rfl) rfl (k67.cell (i:=0) rfl)) .nil)) ?_;have hw7:bF CN (Lw.bA g5 h4.size (.deferred none)) (h4.size+2) 3 (.slice wa xs.length wc) xs:=ay.ext x7 (ay.ext x6 (ay.ext x5 hw (fun b hb q=>by have:=(ay.lt hw hb).1;omega)) (fun b hb q=>by have:=(ay.lt hw hb).1;omega)) (fun b hb q=>by have:=(ay.lt hw hb).1;omega);exact⟨_,rfl,⟨_,rfl,rfl,bF.read (h1:=fun _=>rfl) hw7 (fun _ _ q=>by omega)⟩,ah.only (ah.only (ah.only E0 x5 (by omega)) x6 (by omega)) x7 (by omega)⟩
theorem Cb (u:By) (b:UInt8) (hu:u.length<=100000) (h0:u≠[]) (h27:(u.getD 0 0).toNat=27) (hok:vw u):aj Tryz.prog 83 #[.agg (lf (nW u) (oI u)).toArray,.int .u8 b.toNat] h (aN fun r h'=>(∃v,r= .tuple #[.agg (lf (nW (Ag u b).1) (oI (Ag u b).1)).toArray,v]/\gM h' h.size v (Ag u b).2)/\ah h h'):=by
 have hb:=b.toNat_lt;have hA:nW u=if u.length=1 then 2 else 3:=by rw[nW,if_neg h0,if_pos h27]
 have hT:oI u=u.drop 2:=by rw[oI,if_neg h0,if_pos h27]
 have hts:(bs (u.drop 2)).size=u.length-2:=by rw[aC,List.length_drop]
 unfold Ag;rw[hT];generalize ha:nW u=a at *;generalize ht:u.drop 2=t at *;refine bf ?_;refine aa ?_;refine xo rfl (cM) ?_;rintro _ h1 ⟨rfl,k1,e1,z1⟩;refine xo rfl (cC) ?_;rintro _ h2 ⟨rfl,k2,e2,z2⟩;have k1:az h2 h.size 111 (lf a t):=k1.af e2;have k2:az h2 h1.size 111 (lf 0 []):=k2;have e02:=e1.trans e2;refine aa ?_;refine aQ (fun q27=>?_) (fun q27=>?_)
 · rw[if_pos (by omega)];refine aa ?_;refine xp rfl (au (H.zl _) rfl) ?_;refine xo rfl (aG rfl ey) ?_;rintro _ h6 ⟨rfl,e6⟩;refine xo rfl (mz) ?_;rintro _ h4 ⟨rfl,hh4⟩;have e06:=e02.trans e6;have hz6:=e06.size;have e4:ah h6 h4:=by rw[hh4];exact Ext.push _ _ _
   have k4:az h4 h6.size 119 (jo 5 0 (.slice none 0 0) 0):=by rw[hh4];exact cl _ _ _
   refine aY rfl (bM rfl rfl (((k2.af e6).af e4))) ?_;rintro _ h3 ⟨rfl,k3,x3,z3⟩;refine aa ?_;refine fG (fT rfl k3.row (kZ fF)) ?_;have l2:=k2.lt;have l6:=e6.size;exact⟨_,rfl,⟨_,rfl,gM.one (k4.ext x3 (by omega)) (by omega) rfl (aR.nil _ _ _)⟩,ah.only (e06.trans e4) x3 e1.size⟩
 · rw[if_neg (by omega)];refine aa ?_;refine aQ (fun q24=>?_) (fun q24=>?_)
   · rw[if_pos (.inl (by omega))];refine aa ?_;refine fH rfl (by simp[q24]) ?_;refine aa ?_;refine xp rfl (au (H.gw ) rfl) ?_;refine xo rfl (aG rfl ey) ?_;rintro _ h6 ⟨rfl,e6⟩;refine xo rfl (mz) ?_;rintro _ h4 ⟨rfl,hh4⟩;have e06:=e02.trans e6;have hz6:=e06.size;have e4:ah h6 h4:=by rw[hh4];exact Ext.push _ _ _
     have k4:az h4 h6.size 119 (jo 5 0 (.slice none 0 0) 0):=by rw[hh4];exact cl _ _ _
     refine aY rfl (bM rfl rfl (((k2.af e6).af e4))) ?_;rintro _ h3 ⟨rfl,k3,x3,z3⟩;refine aa ?_;refine fG (fT rfl k3.row (kZ fF)) ?_;have l2:=k2.lt;have l6:=e6.size;exact⟨_,rfl,⟨_,rfl,gM.one (k4.ext x3 (by omega)) (by omega) rfl (aR.nil _ _ _)⟩,ah.only (e06.trans e4) x3 e1.size⟩
   · refine aa ?_;refine aQ (fun q26=>?_) (fun q26=>?_)
     · rw[if_pos (.inr (by omega))];refine aa ?_;refine xp rfl (au (H.gw ) rfl) ?_;refine xo rfl (aG rfl ey) ?_;rintro _ h6 ⟨rfl,e6⟩;refine xo rfl (mz) ?_;rintro _ h4 ⟨rfl,hh4⟩;have e06:=e02.trans e6;have hz6:=e06.size;have e4:ah h6 h4:=by rw[hh4];exact Ext.push _ _ _
       have k4:az h4 h6.size 119 (jo 5 0 (.slice none 0 0) 0):=by rw[hh4];exact cl _ _ _
       refine aY rfl (bM rfl rfl (((k2.af e6).af e4))) ?_;rintro _ h3 ⟨rfl,k3,x3,z3⟩;refine aa ?_;refine fG (fT rfl k3.row (kZ fF)) ?_;have l2:=k2.lt;have l6:=e6.size;exact⟨_,rfl,⟨_,rfl,gM.one (k4.ext x3 (by omega)) (by omega) rfl (aR.nil _ _ _)⟩,ah.only (e06.trans e4) x3 e1.size⟩
     · rw[if_neg (by omega)];refine aa ?_;refine aQ (fun q32=>?_) (fun q32=>?_)
       · rw[if_pos (by omega),show nW u=a from ha,show oI u=t by rw[hT]];refine aa ?_;refine xp rfl (bI rfl k1.row) ?_;refine aU ?_;refine xp rfl (ur rfl (ry _ (by omega))) ?_;refine xp rfl (au (H.jB _ _) rfl) ?_;refine xo rfl (mz) ?_;rintro _ h4 ⟨rfl,hh4⟩;have e4:ah h2 h4:=by rw[hh4];exact Ext.push _ _ _
         have k4:az h4 h2.size 119 (jo 2 b.toNat (.slice none 0 0) 0):=by rw[hh4];exact cl _ _ _
         refine aY rfl (bM rfl rfl ((k2.af e4)) ((Ij _ _))) ?_;rintro _ h3 ⟨rfl,k3,x3,z3⟩;refine aa ?_;have k3:az h3 h1.size 111 (lf a t):=k3;refine fG (fT rfl k3.row (kZ fF)) ?_;have l2:=e02.size;have l3:=k2.lt;exact⟨_,rfl,⟨_,rfl,gM.one (k4.ext x3 (by omega)) (by omega) rfl (aR.nil _ _ _)⟩,ah.only (e02.trans e4) x3 e1.size⟩
       · rw[if_neg (by omega)];refine aI ?_;refine dM [(30,.bool (decide (a=2/\b.toNat=91)))] rfl ?_ ?_
         · refine aa ?_;refine xp rfl (aA rfl (k1.cell (i:=0) rfl)) ?_;refine aa ?_;refine dx 34 (fun g1=>?_) (fun g1=>?_)
           · have g1:=of_decide_eq_true g1;refine aa ?_;exact aL rfl ⟨ak rfl (by rw[decide_eq_decide];omega),sb rfl⟩
           · have g1:=of_decide_eq_false g1;refine aa ?_;exact aL rfl ⟨ak rfl (by rw[decide_eq_false (by omega)]),sb rfl⟩
         · refine aQ (fun q30=>?_) (fun q30=>?_)
           · have hl1:u.length=1:=by
              by_cases q:u.length=1
              · exact q
              · rw[if_neg q] at hA;omega
             have hu27:u=[27]:=by
              match u,hl1,h27 with
              | [c],_,h27=>rw[show c=27 from UInt8.toNat_inj.1 h27]
             have hb91:b=91:=UInt8.toNat_inj.1 q30.2;subst hu27 hb91;rw[if_pos hl1,if_pos q30.2];refine aa ?_;refine xp rfl (au (H.zl _) rfl) ?_;refine aY rfl (bM rfl rfl k2) ?_;rintro _ h3 ⟨rfl,k3,x3,z3⟩;refine aa ?_;have k3:az h3 h1.size 111 (lf 3 []):=k3;refine fG (fT rfl k3.row (kZ fF)) ?_;exact⟨_,rfl,⟨_,rfl,gM.nil⟩,ah.only e02 x3 e1.size⟩
           · refine aI ?_;refine dM [(39,.bool (decide (a=2/\48<=b.toNat/\b.toNat<127)))] rfl ?_ ?_
             · refine aa ?_;refine xp rfl (aA rfl (k1.cell (i:=0) rfl)) ?_;refine aa ?_;refine dx 43 (fun g1=>?_) (fun g1=>?_)
               · have g1:=of_decide_eq_true g1;refine aa ?_;refine dx 47 (fun g2=>?_) (fun g2=>?_)
                 · have g2:=of_decide_eq_true g2;refine aa ?_;exact aL rfl ⟨ak rfl (by rw[decide_eq_decide];omega),sb rfl⟩
                 · have g2:=of_decide_eq_false g2;refine aa ?_;exact aL rfl ⟨ak rfl (by rw[decide_eq_false (by omega)]),sb rfl⟩
               · have g1:=of_decide_eq_false g1;refine aa ?_;exact aL rfl ⟨ak rfl (by rw[decide_eq_false (by omega)]),sb rfl⟩
             · refine aQ (fun q39=>?_) (fun q39=>?_)
               · have hl1:u.length=1:=by
                  by_cases q:u.length=1
                  · exact q
                  · rw[if_neg q] at hA;omega
                 rw[if_pos hl1,if_neg (by omega),if_pos q39.2];refine aa ?_;refine xp rfl (au (H.gw ) rfl) ?_;refine aa ?_;refine xp rfl (au (H.Fv _ _) rfl) ?_;refine xo rfl (mz) ?_;rintro _ h4 ⟨rfl,hh4⟩;have e4:ah h2 h4:=by rw[hh4];exact Ext.push _ _ _
                 have k4:az h4 h2.size 119 (jo 4 0 (.slice none 0 0) b.toNat):=by rw[hh4];exact cl _ _ _
                 refine aY rfl (bM rfl rfl ((k2.af e4))) ?_;rintro _ h3 ⟨rfl,k3,x3,z3⟩;refine aa ?_;refine fG (fT rfl k3.row (kZ fF)) ?_;have l2:=e02.size;have l3:=k2.lt;exact⟨_,rfl,⟨_,rfl,gM.one (k4.ext x3 (by omega)) (by omega) rfl (aR.nil _ _ _)⟩,ah.only (e02.trans e4) x3 e1.size⟩
               · refine aI ?_;refine dM [(55,.bool (decide (a=3/\b.toNat<64)))] rfl ?_ ?_
                 · refine aa ?_;refine xp rfl (aA rfl (k1.cell (i:=0) rfl)) ?_;refine aa ?_;refine dx 59 (fun g1=>?_) (fun g1=>?_)
                   · have g1:=of_decide_eq_true g1;refine aa ?_;exact aL rfl ⟨ak rfl (by rw[decide_eq_decide];omega),sb rfl⟩
                   · have g1:=of_decide_eq_false g1;refine aa ?_;exact aL rfl ⟨ak rfl (by rw[decide_eq_false (by omega)]),sb rfl⟩
                 · refine aQ (fun q55=>?_) (fun q55=>?_)
                   · have hl1:¬u.length=1:=fun q=>by rw[if_pos q] at hA;omega
                     have hl2:2<=u.length:=by
                      have:=List.length_pos_iff.2 h0;omega
                     rw[if_neg hl1,if_pos q55.2]
                     have hA2:lf (nW (u++[b])) (oI (u++[b]))=lf 3 (t++[b]):=by
                      obtain⟨c,tl,rfl⟩:=List.exists_cons_of_ne_nil h0;have h27':c.toNat=27:=h27;have hlt:¬(tl++[b]).length=0:=by simp
                      rw[nW,oI,if_neg (by simp),if_pos (by exact h27'),if_neg (by simp),if_neg (by simp),if_pos (by exact h27'),<-ht,List.drop_append_of_le_length hl2]
                     rw[hA2];refine aa ?_;refine xp rfl (aA rfl (k1.cell (i:=1) rfl)) ?_;refine aa ?_;refine xo rfl (kI [_]) ?_;rintro _ h4 ⟨rfl,hh4⟩;refine xp rfl (Ie rfl (show aR .byte h4 (fun _=>False) _ [b] by rw[hh4];exact Bq h2 b 5)) ?_;refine xp rfl (an.bL rfl rfl (by rw[hts];show u.length-2+1<=_;omega)) ?_;have e4:ah h2 h4:=by rw[hh4];exact Ext.push _ _ _
                     refine xp rfl (au (H.pE _ _) rfl) ?_;refine aY rfl (bM rfl rfl ((k2.af e4)) ((Ij 3 (t++[b])))) ?_;rintro _ h3 ⟨rfl,k3,x3,z3⟩;refine aa ?_;refine fG (fT rfl k3.row (kZ fF)) ?_;exact⟨_,rfl,⟨_,rfl,gM.nil⟩,ah.only (e02.trans e4) x3 e1.size⟩
                   · refine aI ?_;refine dM [(70,.bool (decide (a=3/\b.toNat<127)))] rfl ?_ ?_
                     · refine aa ?_;refine xp rfl (aA rfl (k1.cell (i:=0) rfl)) ?_;refine aa ?_;refine dx 74 (fun g1=>?_) (fun g1=>?_)
                       · have g1:=of_decide_eq_true g1;refine aa ?_;exact aL rfl ⟨ak rfl (by rw[decide_eq_decide];omega),sb rfl⟩
                       · have g1:=of_decide_eq_false g1;refine aa ?_;exact aL rfl ⟨ak rfl (by rw[decide_eq_false (by omega)]),sb rfl⟩
                     · refine aQ (fun q70=>?_) (fun q70=>?_)
                       · have hl1:¬u.length=1:=fun q=>by rw[if_pos q] at hA;omega
                         rw[if_neg hl1,if_neg (by omega),if_pos q70.2];refine aa ?_;refine xp rfl (aA rfl (k1.cell (i:=1) rfl)) ?_;refine xo rfl (aG rfl (uG t (by rw[<-ht,List.length_drop];omega))) ?_;rintro _ h5 ⟨⟨v,rfl,hv1,hvs⟩,e5⟩;have hz2:=e02.size;have hz5:=e5.size;have e05:=e02.trans e5;have k25:=k2.af e5;generalize hpp:rW t=o at *
                         rcases o with _|l
                         · refine aa ?_;refine bV rfl (by simp) ?_;refine aa ?_;refine xp rfl (au (H.gw ) rfl) ?_;refine xo rfl (aG rfl ey) ?_;rintro _ h6 ⟨rfl,e6⟩;refine xo rfl (mz) ?_;rintro _ h4 ⟨rfl,hh4⟩;have e06:=e05.trans e6;have hz6:=e06.size;have e4:ah h6 h4:=by rw[hh4];exact Ext.push _ _ _
                           have k4:az h4 h6.size 119 (jo 5 0 (.slice none 0 0) 0):=by rw[hh4];exact cl _ _ _
                           refine aY rfl (bM rfl rfl (((k25.af e6).af e4))) ?_;rintro _ h3 ⟨rfl,k3,x3,z3⟩;refine aa ?_;refine fG (fT rfl k3.row (kZ fF)) ?_;have l2:=k25.lt;have l6:=e6.size;exact⟨_,rfl,⟨_,rfl,gM.one (k4.ext x3 (by omega)) (by omega) rfl (aR.nil _ _ _)⟩,ah.only (e06.trans e4) x3 e1.size⟩
                         · obtain⟨va,vn,vc,rfl,-⟩:=id hvs.open;refine aa ?_;refine fH rfl (by simp) ?_;refine aa ?_;refine xp rfl (au (H.gw ) rfl) ?_;refine aa ?_;refine xp rfl (au (H.Bx _ _ _ _ _) rfl) ?_;refine xo rfl (mz) ?_;rintro _ h4 ⟨rfl,hh4⟩;have e4:ah h5 h4:=by rw[hh4];exact Ext.push _ _ _
                           have k4:az h4 h5.size 119 (jo 3 0 (.slice va vn vc) b.toNat):=by rw[hh4];exact cl _ _ _
                           refine aY rfl (bM rfl rfl ((k25.af e4))) ?_;rintro _ h3 ⟨rfl,k3,x3,z3⟩;refine aa ?_;refine fG (fT rfl k3.row (kZ fF)) ?_;have l3:=k25.lt;have l4:=e1.size;exact⟨_,rfl,⟨_,rfl,gM.one (k4.ext x3 (by omega)) (by omega) hv1 ((hvs.af e4).mv (Mv.dI x3 fun b _ ho=>⟨fun q=>ho (by have:=k2.lt;omega),by omega⟩))⟩,ah.only (e05.trans e4) x3 e1.size⟩
                       · by_cases q:u.length=1
                         · rw[if_pos q] at hA;rw[if_pos q,if_neg (by omega),if_neg (by omega)];refine aa ?_;refine xp rfl (au (H.gw ) rfl) ?_;refine xo rfl (aG rfl ey) ?_;rintro _ h6 ⟨rfl,e6⟩;refine xo rfl (mz) ?_;rintro _ h4 ⟨rfl,hh4⟩;have e06:=e02.trans e6;have hz6:=e06.size;have e4:ah h6 h4:=by rw[hh4];exact Ext.push _ _ _
                           have k4:az h4 h6.size 119 (jo 5 0 (.slice none 0 0) 0):=by rw[hh4];exact cl _ _ _
                           refine aY rfl (bM rfl rfl (((k2.af e6).af e4))) ?_;rintro _ h3 ⟨rfl,k3,x3,z3⟩;refine aa ?_;refine fG (fT rfl k3.row (kZ fF)) ?_;have l2:=k2.lt;have l6:=e6.size;exact⟨_,rfl,⟨_,rfl,gM.one (k4.ext x3 (by omega)) (by omega) rfl (aR.nil _ _ _)⟩,ah.only (e06.trans e4) x3 e1.size⟩
                         · rw[if_neg q] at hA;rw[if_neg q,if_neg (by omega),if_neg (by omega)];refine aa ?_;refine xp rfl (au (H.gw ) rfl) ?_;refine xo rfl (aG rfl ey) ?_;rintro _ h6 ⟨rfl,e6⟩;refine xo rfl (mz) ?_;rintro _ h4 ⟨rfl,hh4⟩;have e06:=e02.trans e6;have hz6:=e06.size;have e4:ah h6 h4:=by rw[hh4];exact Ext.push _ _ _
                           have k4:az h4 h6.size 119 (jo 5 0 (.slice none 0 0) 0):=by rw[hh4];exact cl _ _ _
                           refine aY rfl (bM rfl rfl (((k2.af e6).af e4))) ?_;rintro _ h3 ⟨rfl,k3,x3,z3⟩;refine aa ?_;refine fG (fT rfl k3.row (kZ fF)) ?_;have l2:=k2.lt;have l6:=e6.size;exact⟨_,rfl,⟨_,rfl,gM.one (k4.ext x3 (by omega)) (by omega) rfl (aR.nil _ _ _)⟩,ah.only (e06.trans e4) x3 e1.size⟩
theorem MQ {t:TypeId}(hf:∃f0 f1:Field,(Tryz.prog.fieldsOf t).toList=[f0,f1]/\(f0.name≠ "_" /\f0.type=3/\f0.offset=0)/\(f1.name≠ "_" /\f1.type=9/\f1.offset=1)) (a:Nat) (s:By) (w:World) :
 (Op.eqFields 9999 (lf a s).toArray (lf 0 []).toArray (Tryz.prog.fieldsOf t).toList).run Tryz.prog w= .ok (decide (a=0/\s=[])) w:=by
 have hi:aJ Tryz.prog 3=some false:=by kernel_rfl
 have hs:aJ Tryz.prog 9=some false:=by kernel_rfl
 obtain⟨f0,f1,e,⟨n0,t0,o0⟩,⟨n1,t1,o1⟩⟩:=hf;rw[e];have h1:=bN (P:=Tryz.prog) (d:=9999) (xs:=(lf a s).toArray) (ys:=(lf 0 []).toArray) (fs:=[]) (w:=w) n1 (by rw[t1];exact hs) (u:=.string (bs s)) (v:=.string (bs [])) (by rw[o1];rfl) (by rw[o1];rfl) (by rw[t1];exact run_equalIn_string w 9998 _ _ _ underlying9) rfl;have h0:=bN n0 (by rw[t0];exact hi) (u:=.int .i64 (a:Nat)) (v:=.int .i64 (0:Nat)) (by rw[o0];rfl) (by rw[o0];rfl) (by rw[t0];exact run_equalIn_int w 9998 _ _ _ _ _ underlying3) h1;rw[h0]
 congr 1
 rw[Bool.eq_iff_iff];simp[bs]
theorem MR (a:Nat) (s:By) (w:World):(Op.eqFields 9999 (lf a s).toArray (lf 0 []).toArray (Tryz.prog.fieldsOf 111).toList).run Tryz.prog w= .ok (decide (a=0/\s=[])) w :=
 MQ ⟨_,_,rfl,⟨by decide,rfl,rfl⟩,⟨by decide,rfl,rfl⟩⟩ a s w
theorem A9 (hg:BM h) (u:By) (b:UInt8) (hu:u.length<=100000) (hok:vw u):aj Tryz.prog 54 #[.agg (lf (nW u) (oI u)).toArray,.int .u8 b.toNat] h (aN fun r h'=>(∃v,r= .tuple #[.agg (lf (nW (gP u b).1) (oI (gP u b).1)).toArray,v]/\gM h' h.size v (gP u b).2)/\ah h h'):=by
 unfold gP;have hA:nW u=if u=[] then 0 else if (u.getD 0 0).toNat=27 then (if u.length=1 then 2 else 3) else 1:=rfl
 have hT:oI u=if u=[] then [] else if (u.getD 0 0).toNat=27 then u.drop 2 else u:=rfl
 have hrun:∀(h:ai),BM h->u≠[]->(u.getD 0 0).toNat≠27->aj Tryz.prog 82 #[.agg (lf (nW u) (oI u)).toArray,.int .u8 b.toNat] h (aN fun r h'=>(∃v,r= .tuple #[.agg (lf (nW (rQ u b).1) (oI (rQ u b).1)).toArray,v]/\gM h' h.size v (rQ u b).2)/\ah h h'):=fun h hg h0 h27=>by
  rw[hA,hT,if_neg h0,if_neg h27,if_neg h0,if_neg h27];exact Ah hg u b hu h0 h27
 have hseq:=fun(h:ai) (h0:u≠[]) h27=>Cb (h:=h) u b hu h0 h27 hok
 generalize nW u=a at *;generalize oI u=t at *;refine bf ?_;refine aa ?_;refine xo rfl (cM) ?_;rintro _ h1 ⟨rfl,k1,e1,z1⟩;refine xo rfl (cC) ?_;rintro _ h2 ⟨rfl,k2,e2,z2⟩;have k1:az h2 h.size 111 (lf a t):=k1.af e2;have e02:=e1.trans e2;refine aa ?_;refine xp rfl (bI rfl k1.row) ?_;refine xp rfl (au (H.gw ) rfl) ?_;refine xp rfl (an.yy Hi Iz I0 rfl rfl (MR a t)) ?_;refine aa ?_
 by_cases h0:u=[]
 · rw[if_pos h0] at hA hT;subst hA hT;rw[if_pos h0];refine fH rfl (by decide) ?_;refine aa ?_;refine xo rfl (aG rfl (oo (hg.af e02) b)) ?_;rintro _ h3 ⟨⟨v,rfl,kv⟩,e3⟩;refine aa ?_;refine aY rfl (bM rfl rfl ((k2.af e3)) ((Ij _ _))) ?_;rintro _ h4 ⟨rfl,k4,x4,z4⟩;refine aa ?_;refine fG (fT rfl k4.row (kZ fF)) ?_;have l2:=k2.lt;exact⟨_,rfl,⟨_,rfl,(kv.ext x4 (by omega)).low e02.size⟩,ah.only (e02.trans e3) x4 e1.size⟩
 · rw[if_neg h0] at hA hT;rw[if_neg h0];have ha0:a≠0:=by rw[hA];(repeat' split)<;>decide
   refine bV rfl (by simp[ha0]) ?_;refine aa ?_;refine xp rfl (aA rfl (k1.cell (i:=0) rfl)) ?_;refine aa ?_
   by_cases h27:(u.getD 0 0).toNat=27
   · rw[if_pos h27] at hA;rw[if_pos h27];have ha1:a≠1:=by rw[hA];split<;>decide
     refine bV rfl (by simp;omega) ?_;refine aa ?_;refine xp rfl (bI rfl k1.row) ?_;refine aa ?_;refine xo rfl (aG rfl (hseq h2 h0 h27)) ?_;rintro _ h3 ⟨⟨v,rfl,kv⟩,e3⟩;refine aa ?_;refine aY rfl (bM rfl rfl ((k2.af e3)) ((Ij _ _))) ?_;rintro _ h4 ⟨rfl,k4,x4,z4⟩;refine aa ?_;refine fG (fT rfl k4.row (kZ fF)) ?_;have l2:=k2.lt;exact⟨_,rfl,⟨_,rfl,(kv.ext x4 (by omega)).low e02.size⟩,ah.only (e02.trans e3) x4 e1.size⟩
   · rw[if_neg h27] at hA;rw[if_neg h27];refine fH rfl (by rw[hA];decide) ?_;refine aa ?_;refine xp rfl (bI rfl k1.row) ?_;refine aa ?_;refine xo rfl (aG rfl (hrun h2 (hg.af e02) h0 h27)) ?_;rintro _ h3 ⟨⟨v,rfl,kv⟩,e3⟩;refine aa ?_;refine aY rfl (bM rfl rfl ((k2.af e3)) ((Ij _ _))) ?_;rintro _ h4 ⟨rfl,k4,x4,z4⟩;refine aa ?_;refine fG (fT rfl k4.row (kZ fF)) ?_;have l2:=k2.lt;exact⟨_,rfl,⟨_,rfl,(kv.ext x4 (by omega)).low e02.size⟩,ah.only (e02.trans e3) x4 e1.size⟩
theorem K7 (b:UInt8):vw (jc b).1/\(jc b).1.length<=1/\∀x∈(jc b).2,x.2.2.1.length<=16/\∀y∈x.2.2.1,0<=y/\y<=9999:=by
 unfold jc
 repeat' split
 all_goals refine⟨?_,by simp,?_⟩
 all_goals first|(intro _;exact .inl rfl)|(intro q;simp at q;done)|(intro x hx;simp at hx;done)|(intro x hx;rw[List.mem_singleton] at hx;subst hx;exact⟨Nat.zero_le _,fun y hy=>by cases hy⟩)
theorem DW (u:By) (b:UInt8) (hok:vw u):vw (gP u b).1/\(gP u b).1.length<=u.length+1/\∀x∈(gP u b).2,x.2.2.1.length<=16/\∀y∈x.2.2.1,0<=y/\y<=9999:=by
 obtain⟨g1,g2,g3⟩:=K7 b;have one:∀(k r f:Int) (l:List Int),(l.length<=16/\∀y∈l,0<=y/\y<=9999)->∀x∈[((k,r,l,f):Ac)],x.2.2.1.length<=16/\∀y∈x.2.2.1,0<=y/\y<=9999:=fun k r f l hl x hx=>by rw[List.mem_singleton] at hx;subst hx;exact hl
 have nil:([]:List Int).length<=16/\∀y∈([]:List Int),0<=y/\y<=9999:=⟨by decide,fun y hy=>by cases hy⟩
 have none_:∀x∈([]:List Ac),x.2.2.1.length<=16/\∀y∈x.2.2.1,0<=y/\y<=9999:=fun x hx=>by cases hx
 have e0:vw []:=fun q=>by simp at q
 have e27:vw [27]:=fun _=>.inl rfl
 have app:u≠[]->(u.length=1->b.toNat=91\/(u.getD 0 0).toNat≠27)->vw (u++[b]):=fun h0 h1 q=>by
  obtain⟨c,tl,rfl⟩:=List.exists_cons_of_ne_nil h0;have q:c.toNat=27:=q
  rcases hok q with h|h
  · obtain rfl:tl=[]:=List.length_eq_zero_iff.1 (by simp only[List.length_cons] at h;omega)
    rcases h1 rfl with h|h
    · exact .inr h
    · exact absurd q h
  · cases tl with
    |nil=>simp at h
    |cons d tl=>exact .inr h
 unfold gP;split
 · exact⟨g1,by omega,g3⟩
 · rename_i h0;split
   · rename_i h27;unfold Ag
     repeat' split
     · exact⟨e27,by simp,one _ _ _ _ nil⟩
     · exact⟨e0,by simp,one _ _ _ _ nil⟩
     · exact⟨hok,by simp,one _ _ _ _ nil⟩
     · exact⟨app h0 fun _=>.inl (by assumption),by simp,none_⟩
     · exact⟨e0,by simp,one _ _ _ _ nil⟩
     · exact⟨e0,by simp,one _ _ _ _ nil⟩
     · exact⟨app h0 fun q=>absurd q (by assumption),by simp,none_⟩
     · exact⟨e0,by simp,one _ _ _ _ (Gy (by assumption))⟩
     · exact⟨e0,by simp,one _ _ _ _ nil⟩
     · exact⟨e0,by simp,one _ _ _ _ nil⟩
   · rename_i h27;unfold rQ
     repeat' split
     · exact⟨e0,by simp,one _ _ _ _ nil⟩
     · exact⟨app h0 fun _=>.inr h27,by simp,none_⟩
     · refine⟨g1,by show (jc b).1.length<=_;omega,fun x hx=>?_⟩
       rcases List.mem_cons.1 hx with rfl|hx
       · exact nil
       · exact g3 x hx
theorem pV (s:By) (h0:s≠[]) (hs:s.length<=100000):aj Tryz.prog 93 #[.string (bs s),.int .i64 0] h (aN fun r h'=>r= .tuple #[.int .i32 (ij s:Nat),.int .i64 (cA s:Nat),.bool (J1 s)]/\ah h h'):=by
 have k:=AD (h:=h) s 0 (List.length_pos_iff.2 h0) (by omega);rw[List.drop_zero,(sr h0).1,(sr h0).2,vT h0] at k;exact k
theorem lg (s:By) (h0:s≠[]) (hs:s.length<=100000):aj Tryz.prog 92 #[.string (bs s)] h (aN fun r h'=>r= .bool (eZ s)/\ah h h'):=by
 have hbs:=aC s;refine bf ?_;refine aa ?_;refine xo rfl (aG rfl (pV s h0 hs)) ?_;rintro _ h1 ⟨rfl,e1⟩
 iterate 7 refine aU ?_
 refine bJ ?_;refine aI ?_;refine dM [(2,.bool (eZ s))] rfl ?_ ?_
 · refine aa ?_;refine dx 13 (fun g1=>?_) (fun g1=>?_)
   · refine aa ?_;exact aL rfl ⟨ak rfl (by rw[eZ,g1,Bool.true_and,decide_eq_decide];omega),sb rfl⟩
   · refine aa ?_;exact aL rfl ⟨ak rfl (by rw[eZ,g1];rfl),sb rfl⟩
 · refine aW ?_;exact⟨_,rfl,rfl,e1⟩
theorem pL {L:Nat}{kk r f:Int}{p:Value}{ps:List Int}(k:Lw.rowAt h b (0+0*4) (jo kk r p f)) (hL:L<=b) (h1:p.oneCell'=true) (hp:aR Bc h (fun y=>y<L) p ps):gM h L (.slice (some ⟨b,0,none⟩) 1 1) [(kk,r,ps,f)] :=
 ⟨_,1,1,rfl,rfl,by decide,fun i x hx=>by
  match i,hx with
  | 0,hx=>cases hx;exact⟨b,p,rfl,hL,k,h1,hp⟩⟩
theorem pW (kk r:Int):aj Tryz.prog 94 #[.int .i64 kk,.int .i32 r] h (aN fun v h'=>(∃b,v= .slice (some ⟨b,0,none⟩) 1 1/\h.size<=b/\az h' b 125 (jo kk r (.slice none 0 0) 0))/\ah h h'):=by
 refine bf ?_;refine aa ?_;refine xp rfl (au (H.Fu _ _) rfl) ?_;refine xo rfl (mz) ?_;rintro _ h4 ⟨rfl,hh4⟩;have e4:ah h h4:=by rw[hh4];exact Ext.push _ _ _
 have k4:az h4 h.size 125 (jo kk r (.slice none 0 0) 0):=by rw[hh4];exact cl _ _ _
 refine aa ?_;refine aW ?_;exact⟨_,rfl,⟨_,rfl,Nat.le_refl _,k4⟩,e4⟩
theorem cT (kk r:Int):aj Tryz.prog 94 #[.int .i64 kk,.int .i32 r] h (aN fun v h'=>gM h' h.size v [(kk,r,[],0)]/\ah h h') :=
 (pW kk r).ret fun _ _ ⟨⟨_,e,hb,k⟩,x⟩=>⟨e▸pL k.row hb rfl (aR.nil _ _ _),x⟩
theorem tV (s:By) (hs:s.length<=100000):aj Tryz.prog 95 #[.string (bs s)] h (aN fun r h'=>r= .bool (ny s)/\ah h h'):=by
 have hbs:=aC s;rw[<-Jd];unfold tX;refine bf ?_;refine aI ?_;refine bU ?_;refine aU ?_;refine bJ ?_
 iterate 2 refine aI ?_
 refine dM [(17,.bool (decide (s=[]\/(s.getD 0 0).toNat<194\/244<(s.getD 0 0).toNat)))] rfl ?_ ?_
 · refine aa ?_
   rcases Decidable.em (s=[]) with hs0|hs0
   · subst hs0;refine RW.aO (d:=8) (b':=true) rfl (rfl) ?_;refine aa ?_;exact aL rfl ⟨ak rfl (by simp),sb rfl⟩
   · obtain⟨c,tl,rfl⟩:=List.exists_cons_of_ne_nil hs0;refine RW.aO (d:=8) (b':=false) rfl ((by simp[bs])) ?_;refine aa ?_;refine xp rfl (oK rfl rfl 0 rfl (cQ (l:=c::tl) rfl)) ?_;refine aa ?_;refine dx 13 (fun g1=>?_) (fun g1=>?_)
     · have g1:=of_decide_eq_true g1;refine aa ?_;exact aL rfl ⟨ak rfl (by rw[decide_eq_true];exact .inr (.inl (by show c.toNat<194;omega))),sb rfl⟩
     · have g1:=of_decide_eq_false g1;refine aa ?_;refine xp rfl (oK rfl rfl 0 rfl (cQ (l:=c::tl) rfl)) ?_;refine aa ?_;exact aL rfl ⟨ak rfl (by rw[decide_eq_decide];exact⟨fun q=>.inr (.inr (by show 244<c.toNat;omega)),fun q=>q.elim (fun q=>by cases q) fun q=>q.elim (fun q=>by have q:c.toNat<194:=q;omega) fun q=>by have q:244<c.toNat:=q;omega⟩),sb rfl⟩
 · refine aQ (fun q1=>?_) (fun q1=>?_)
   · rw[if_pos q1];refine aa ?_;refine aW ?_;exact⟨_,rfl,rfl,av _ _⟩
   · rw[if_neg q1];obtain⟨c,tl,rfl⟩:=List.exists_cons_of_ne_nil (fun e=>q1 (.inl e));have hD:gV (c::tl)=if 240<=c.toNat then 4 else if 224<=c.toNat then 3 else 2:=rfl
     refine aa ?_;refine xp rfl (oK rfl rfl 0 rfl (cQ (l:=c::tl) rfl)) ?_;refine aa ?_
     have m:∀(n0:Nat) (h':ai) (ρ':Env),Sub [(0,.string (bs (c::tl))),(3,.int .i64 (n0:Nat))] ρ'->n0=(if 224<=c.toNat then 3 else 2)->h'=h->G Tryz.prog 95 f95 [.code [1,1,1,1]] ρ' h' (aN fun r h'=>r= .bool (if gV (c::tl)<=(c::tl).length then false else Iv (c::tl++List.replicate (gV (c::tl)-(c::tl).length) 128) ||Iv (c::tl++List.replicate (gV (c::tl)-(c::tl).length) 191) ||decide (2<gV (c::tl)/\(c::tl).length=1))/\ah h h'):=by
      rintro n0 g0 ρ' hsub hn0 rfl;refine G.sub (ρ':=[(0,.string (bs (c::tl))),(3,.int .i64 (n0:Nat))]) hsub ?_;refine aa ?_;refine xp rfl (oK rfl rfl 0 rfl (cQ (l:=c::tl) rfl)) ?_;refine aa ?_
      have m2:∀(n:Nat) (h':ai) (ρ':Env),Sub [(0,.string (bs (c::tl))),(3,.int .i64 (n:Nat))] ρ'->n=gV (c::tl)->h'=g0->G Tryz.prog 95 f95 [.code [1,1,1,1,1]] ρ' h' (aN fun r h'=>r= .bool (if gV (c::tl)<=(c::tl).length then false else Iv (c::tl++List.replicate (gV (c::tl)-(c::tl).length) 128) ||Iv (c::tl++List.replicate (gV (c::tl)-(c::tl).length) 191) ||decide (2<gV (c::tl)/\(c::tl).length=1))/\ah g0 h'):=by
       rintro n g1 ρ' hsub hn rfl;refine G.sub (ρ':=[(0,.string (bs (c::tl))),(3,.int .i64 (n:Nat))]) hsub ?_;rw[<-hn];have hn4:n<=4:=by rw[hn,hD];split;omega;split<;>omega
       generalize hs':c::tl=s at *;have hs0:s≠[]:=by rw[<-hs'];simp
       refine aa ?_;refine aQ (fun q5=>?_) (fun q5=>?_)
       · rw[if_pos (by omega)];refine aa ?_;refine aW ?_;exact⟨_,rfl,rfl,av _ _⟩
       · have q5:s.length<n:=by omega
         rw[if_neg (by omega)];refine fR rfl ?_;refine L9 func95 4 [0,3,4,5,27] rfl ?_;refine G.seq rfl ?_;refine G.block rfl rfl ?_;refine nC (σ:=Nat×By×By) (fun q=>[(0,.string (bs s)),(3,.int .i64 (n:Nat)),(4,.string (bs q.2.1)),(5,.string (bs q.2.2))]) (fun q g=>s.length+q.1<=n/\q.2.1=s++List.replicate q.1 128/\q.2.2=s++List.replicate q.1 191/\g=g1) (fun q=>n-(s.length+q.1)) ((0,s,s)) rfl ⟨rfl,rfl,rfl,rfl,trivial⟩ ⟨by show s.length+0<=n;omega,by simp,by simp,rfl⟩ ?_;rintro⟨j,lo,hi⟩ g ⟨hj,h4,h5,hg⟩ ih
         try dsimp only
         dsimp only at hj h4 h5;subst hg h4 h5;have z4:=aC (s++List.replicate j 128);have z5:=aC (s++List.replicate j 191);rw[List.length_append,List.length_replicate] at z4 z5;refine G.seq rfl ?_;refine Ma func95 1 rfl ?_;refine xp rfl (an.vZ underlying9 rfl) ?_;refine uv 2 [0,3,4,5,33] rfl ?_;refine wI rfl rfl (fun q6=>?_) (fun q6=>?_)
         · have hrep:∀x:UInt8,bs (s++List.replicate j x)++bs [x]=bs (s++List.replicate (j+1) x):=fun x=>by rw[bg,List.append_assoc,<-List.replicate_succ']
           refine fR rfl ?_;refine G.block rfl rfl ?_;refine G.eE func95 rfl ?_;refine oH 1 rfl ?_;refine xp rfl (an.bL rfl rfl (by rw[z4];show _+1<=_;omega)) ?_;refine oH 1 rfl ?_;refine xp rfl (an.bL rfl rfl (by rw[z5];show _+1<=_;omega)) ?_;refine uv 2 [0,3,4,5,33] rfl ?_;refine G.gr ?_;exact ih (j+1,s++List.replicate (j+1) 128,s++List.replicate (j+1) 191) _ _ ⟨rfl,rfl,congrArg (fun x=>some (Value.string x)) (hrep 128),congrArg (fun x=>some (Value.string x)) (hrep 191),trivial⟩ ⟨by show s.length+(j+1)<=n;omega,rfl,rfl,rfl⟩ (by show n-(s.length+(j+1))<n-(s.length+j);omega)
         · obtain rfl:j=n-s.length:=by omega
           have hl:∀x:UInt8,s++List.replicate (n-s.length) x≠[]:=fun x=>by simp[hs0]
           rw[FQ (hl _),FQ (hl _)];have c1:=fun h=>lg (h:=h) _ (hl 128) (by rw[List.length_append,List.length_replicate];omega)
           have c2:=fun h=>lg (h:=h) _ (hl 191) (by rw[List.length_append,List.length_replicate];omega)
           generalize s++List.replicate (n-s.length) (128:UInt8)=s1 at *;generalize s++List.replicate (n-s.length) (191:UInt8)=s2 at *
           iterate 2 refine aI ?_
           refine BS (fun(_u:Unit) (h':ai)=>ah g h') (fun(_u:Unit)=>[(2,.bool (eZ s1 ||eZ s2 ||decide (2<n/\s.length=1)))]) rfl ?_ ?_
           · refine aa ?_;refine xo rfl (aG rfl (c1 _)) ?_;rintro _ h1 ⟨rfl,e1⟩;refine aa ?_
             rcases Bool.eq_false_or_eq_true (eZ s1) with hw|hw
             · rw[hw];refine RW.aO (d:=40) (b':=true) rfl (rfl) ?_;refine aa ?_;exact ef () e1 ⟨ak rfl (by simp),sb rfl⟩
             · rw[hw];refine RW.aO (d:=40) (b':=false) rfl (rfl) ?_;refine aa ?_;refine xo rfl (aG rfl (c2 _)) ?_;rintro _ h2 ⟨rfl,e2⟩;refine aa ?_
               rcases Bool.eq_false_or_eq_true (eZ s2) with hw2|hw2
               · rw[hw2];refine RW.aO (d:=44) (b':=true) rfl (rfl) ?_;refine aa ?_;exact ef () (e1.trans e2) ⟨ak rfl (by simp),sb rfl⟩
               · rw[hw2];refine RW.aO (d:=44) (b':=false) rfl (rfl) ?_;refine aa ?_;refine dx 47 (fun g2=>?_) (fun g2=>?_)
                 · have g2:=of_decide_eq_true g2;refine aa ?_;exact ef () (e1.trans e2) ⟨ak rfl (by rw[Bool.false_or,Bool.false_or,decide_eq_decide];omega),sb rfl⟩
                 · have g2:=of_decide_eq_false g2;refine aa ?_;exact ef () (e1.trans e2) ⟨ak rfl (by rw[Bool.false_or,Bool.false_or,decide_eq_false (by omega)]),sb rfl⟩
           · rintro-h1 e1;refine aW ?_;exact⟨_,rfl,rfl,e1⟩
      refine aQ (fun q3=>?_) (fun q3=>?_)
      · refine bU ?_;refine aU ?_;refine bJ ?_;exact m2 4 _ _ (by exact sb rfl) (by rw[hD,if_pos (by omega)]) rfl
      · refine aI ?_;exact m2 n0 _ _ (by exact sb rfl) (by rw[hD,if_neg (by omega)];exact hn0) rfl
     refine aQ (fun q2=>?_) (fun q2=>?_)
     · refine bU ?_;refine aU ?_;refine bJ ?_;exact m 3 _ _ (by exact sb rfl) (by rw[if_pos (by omega)]) rfl
     · refine aI ?_;exact m 2 _ _ (by exact sb rfl) (by rw[if_neg (by omega)]) rfl
theorem sZ (b:UInt8):aj Tryz.prog 91 #[.int .u8 b.toNat] h (aN fun r h'=>(∃v,r= .tuple #[.string (bs (jc b).1),v]/\gM h' h.size v (jc b).2)/\ah h h'):=by
 have hb:=b.toNat_lt;unfold jc;refine bf ?_;refine aa ?_;refine xo rfl (kI [_]) ?_;rintro _ h1 ⟨rfl,hh1⟩;refine xp rfl (Ie rfl (show aR .byte h1 (fun _=>False) _ [b] by rw[hh1];exact Bq h b 5)) ?_;have e1:ah h h1:=by rw[hh1];exact Ext.push _ _ _
 have z1:=e1.size;refine aa ?_;refine aQ (fun q27=>?_) (fun q27=>?_)
 · have q27:b.toNat=27:=by omega
   obtain rfl:b=27:=UInt8.toNat_inj.1 q27;rw[if_pos q27];refine aa ?_;refine aW ?_;exact⟨_,rfl,⟨_,rfl,gM.nil⟩,e1⟩
 · rw[if_neg (by omega)]
   iterate 3 refine aI ?_
   refine dM [(16,.bool (decide (b.toNat<32\/b.toNat=127)))] rfl ?_ ?_
   · refine aa ?_;refine dx 13 (fun g1=>?_) (fun g1=>?_)
     · have g1:=of_decide_eq_true g1;refine aa ?_;exact aL rfl ⟨ak rfl (by rw[decide_eq_true (by omega)]),sb rfl⟩
     · have g1:=of_decide_eq_false g1;refine aa ?_;exact aL rfl ⟨ak rfl (by rw[decide_eq_decide];omega),sb rfl⟩
   · refine aQ (fun q2=>?_) (fun q2=>?_)
     · rw[if_pos q2];refine aI ?_;refine bU ?_;refine aU ?_;refine xp rfl (ur rfl (ry _ (by omega))) ?_;refine xo rfl (aG rfl (cT 2 b.toNat)) ?_;rintro _ h2 ⟨ka,e2⟩;obtain⟨oa,m,c,rfl,-⟩:=id ka;refine aa ?_;refine aW ?_;exact⟨_,rfl,⟨_,rfl,ka.low z1⟩,e1.trans e2⟩
     · rw[if_neg q2];refine aa ?_;refine aQ (fun q3=>?_) (fun q3=>?_)
       · rw[if_pos (by omega)];refine aI ?_;refine bU ?_;refine aU ?_;refine xp rfl (ur rfl (ry _ (by omega))) ?_;refine xo rfl (aG rfl (cT 1 b.toNat)) ?_;rintro _ h2 ⟨ka,e2⟩;obtain⟨oa,m,c,rfl,-⟩:=id ka;refine aa ?_;refine aW ?_;exact⟨_,rfl,⟨_,rfl,ka.low z1⟩,e1.trans e2⟩
       · rw[if_neg (by omega)];refine aa ?_;refine xo rfl (aG rfl (tV [b] (by show 1<=_;omega))) ?_;rintro _ h2 ⟨rfl,e2⟩;refine aa ?_;refine oL (fun qb=>?_) (fun qb=>?_)
         · rw[if_pos qb];refine aa ?_;refine aW ?_;exact⟨_,rfl,⟨_,rfl,gM.nil⟩,e1.trans e2⟩
         · rw[if_neg (by rw[qb];decide)];refine aa ?_;refine xo rfl (aG rfl (cT 5 0)) ?_;rintro _ h3 ⟨ka,e3⟩;obtain⟨oa,m,c,rfl,-⟩:=id ka;refine aa ?_;refine aW ?_;have z2:=e2.size;exact⟨_,rfl,⟨_,rfl,ka.low (by omega)⟩,(e1.trans e2).trans e3⟩
theorem EK {i n:Nat}{x:UInt8}(hx:s[i]? =some x):eo (s.drop i) n=if x.toNat=59 then (eo (s.drop (i+1)) 0).map (fun l=>(n:Int)::l) else if 48<=x.toNat/\x.toNat<=57 then eo (s.drop (i+1)) (min (10*n+(x.toNat-48)) 9999) else none:=by
 have hi:=(List.getElem?_eq_some_iff.1 hx).1;have hdr:s.drop i=x::s.drop (i+1):=by rw[List.drop_eq_getElem_cons hi];congr 1;rw[List.getElem?_eq_getElem hi] at hx;exact Option.some.inj hx
 rw[hdr];rfl
theorem Nn:∀c:Nat,c<256->48<=c->IntKind.u8.wrap ((c:Int)-48)=((c-48:Nat):Int):=by decide +kernel
theorem uF (s:By) (hs:s.length<=100000):aj Tryz.prog 96 #[.string (bs s)] h (aN fun r h'=>(∃v,r= .tuple #[v,.bool (rW s).isSome]/\v.oneCell'=true/\aR Bc h' (fun b=>b<h.size) v ((rW s).getD []))/\ah h h'):=by
 have hbs:=aC s;unfold rW;refine bf ?_;refine aa ?_;refine aQ (fun q0=>?_) (fun q0=>?_)
 · obtain rfl:s=[]:=List.length_eq_zero_iff.1 (by rw[<-hbs,q0];rfl);rw[if_pos rfl];refine aa ?_;refine aW ?_;exact⟨_,rfl,⟨_,rfl,rfl,aR.nil _ _ _⟩,av _ _⟩
 · have hs0:s≠[]:=by rintro rfl;exact q0 rfl
   rw[if_neg hs0];refine aa ?_;refine xo rfl (kI [_]) ?_;rintro _ h1 ⟨rfl,hh1⟩;have e1:ah h h1:=by rw[hh1];exact Ext.push _ _ _
   have ho1:bF CN h1 h.size 3 (.slice (some ⟨h.size,0,none⟩) 1 1) ([]++[((0:Nat):Int)]):=by rw[hh1];exact jD CN h _ [((0:Nat):Int)] 1 rfl (by decide) _ (Nat.le_refl _) rfl
   refine aa ?_;refine zB (σ:=(Nat×Nat)×List Int×Value) (fun q=>[(0,.string (bs s)),(4,q.2.2),(5,.int .i64 (q.1.1:Nat))]) (fun q g=>q.1.1<=s.length/\q.1.2<=9999/\q.2.1.length<=q.1.1/\bF CN g h.size 3 q.2.2 (q.2.1++[(q.1.2:Int)])/\eo s 0=(eo (s.drop q.1.1) q.1.2).map (q.2.1++ ·)/\ah h g) (fun q=>s.length-q.1.1) (((0,0),[],.slice (some ⟨h.size,0,none⟩) 1 1)) ⟨Nat.zero_le _,Nat.zero_le _,Nat.zero_le _,ho1,by simp,e1⟩ ?_;rintro⟨⟨i,n⟩,xs,w⟩ g ⟨hi,hn,hxl,ho,hp,eg⟩ ih
   try dsimp only
   dsimp only at hi hn hxl ho hp;obtain⟨wa,wc,rfl,ow⟩:=ay.open ho;have hl:(xs++[(n:Int)]).length=xs.length+1:=by simp
   refine aa ?_;refine aQ (fun hlt=>?_) (fun hlt=>?_)
   · have hil:i<s.length:=by omega
     obtain⟨x,hx⟩:∃x,s[i]? =some x:=⟨_,List.getElem?_eq_getElem hil⟩
     rw[EK hx] at hp;have hxl':=x.toNat_lt;refine aa ?_;refine xp rfl (oK rfl rfl i rfl (cQ hx)) ?_;refine aa ?_
     have nx:∀(n':Nat) (xs':List Int) (w':Value) (h':ai) (ρ':Env),Sub [(0,.string (bs s)),(4,w'),(5,.int .i64 (i:Nat))] ρ'->n'<=9999->xs'.length<=i+1->bF CN h' h.size 3 w' (xs'++[(n':Int)])->eo s 0=(eo (s.drop (i+1)) n').map (xs'++ ·)->ah h h'->G Tryz.prog 96 f96 [.code [1,1,0,0,1,0,1,1,1],.loop [0,0,1,0,1,1,1],.blk 0,.code [1,1,1,1]] ρ' h' (aN fun r h'=>(∃v,r= .tuple #[v,.bool ((eo s 0).bind fun l=>if l.length<=16 then some l else none).isSome]/\v.oneCell'=true/\aR Bc h' (fun b=>b<h.size) v (((eo s 0).bind fun l=>if l.length<=16 then some l else none).getD []))/\ah h h'):=by
      rintro n' xs' w' g2 ρ' hsub a1 a2 a3 a4 a5;refine G.sub (ρ':=[(0,.string (bs s)),(4,w'),(5,.int .i64 (i:Nat))]) hsub ?_;refine aa ?_;exact ih ((i+1,n'),xs',w') ⟨hil,a1,a2,a3,a4,a5⟩
     refine aQ (fun q59=>?_) (fun q59=>?_)
     · rw[if_pos (by omega)] at hp;have zeg:=eg.size;refine aa ?_;refine xo rfl (kI [_]) ?_;rintro _ _ ⟨rfl,rfl⟩;refine xo rfl (Dr rfl rfl ho rfl rfl) ?_;rintro v8 g8 ⟨ho8,hx8,_,hv8⟩;obtain⟨wa8,wc8,rfl,_⟩:=ay.open ho8;refine aU ?_;refine bJ ?_;refine aI ?_;exact nx 0 (xs++[(n:Int)]) _ _ _ (by exact sb rfl) (by decide) (by omega) (bF.of (ys:=[((0:Nat):Int)]) ho8 rfl rfl rfl) (by rw[hp,Option.map_map];congr 1;funext l;simp) (Ext.own eg ho (Nat.le_refl _) hx8)
     · rw[if_neg (by omega)] at hp;refine aI ?_;refine dM [(31,.bool (decide (48<=x.toNat/\x.toNat<=57)))] rfl ?_ ?_
       · refine aa ?_;refine xp rfl (oK rfl rfl i rfl (cQ hx)) ?_;refine aa ?_;refine dx 26 (fun g1=>?_) (fun g1=>?_)
         · have g1:=of_decide_eq_true g1;refine aa ?_;refine xp rfl (oK rfl rfl i rfl (cQ hx)) ?_;refine aa ?_;exact aL rfl ⟨ak rfl (by rw[decide_eq_decide];omega),sb rfl⟩
         · have g1:=of_decide_eq_false g1;refine aa ?_;exact aL rfl ⟨ak rfl (by rw[decide_eq_false (by omega)]),sb rfl⟩
       · refine aQ (fun qd=>?_) (fun qd=>?_)
         · rw[if_pos qd] at hp;have hlast:(xs++[(n:Int)])[xs.length]? =some (n:Int):=by rw[List.getElem?_append_right (Nat.le_refl _),Nat.sub_self];rfl
           obtain⟨b,c',ha,hb,hlt2,hc,hfz,hst⟩:=bF.at ho hlast;cases ha;have hw1:=Nn x.toNat hxl' qd.1;refine ic 20 19 ?_;refine ax 0 ?_;refine ax 1 ?_;refine ax 2 ?_;refine ax 3 ?_;refine ax 4 ?_;refine ax 5 ?_;refine ax 6 ?_;refine ax 7 ?_;refine aS 8 rfl (fun h' e=>bT rfl rfl xs.length (by omega) rfl) ?_;refine aS 9 rfl (fun h' e=>aA rfl (e.old hc)) ?_;refine aS 10 rfl (fun h' e=>an.dK rfl rfl ⟨by omega,by omega⟩) ?_;refine ax 11 ?_;refine ax 12 ?_;refine aS 13 rfl (fun h' e=>oK rfl rfl i rfl (cQ hx)) ?_;refine aS 14 rfl (fun h' e=>an.sub rfl rfl) ?_;refine aS 15 rfl (fun h' e=>ur rfl (by rw[hw1];exact wrap_i64 ⟨by omega,by omega⟩)) ?_;refine ax 16 ?_;refine ax 17 ?_;refine aS 18 rfl (fun h' e=>bT rfl rfl xs.length (by omega) rfl) ?_;refine eK 19 rfl (bW H.fu rfl rfl rfl hc hfz) ?_;rintro _ g2 ⟨rfl,hg2⟩;refine⟨nofun,?_⟩;have hset:(xs++[(n:Int)]).set xs.length ((min (10*n+(x.toNat-48)) 9999:Nat):Int)=xs++[((min (10*n+(x.toNat-48)) 9999:Nat):Int)]:=by rw[List.set_append_right _ _ (Nat.le_refl _),Nat.sub_self];rfl
           have hv:(if (9999:Int)<(n:Int)*10+IntKind.u8.wrap ((x.toNat:Int)-48) then (9999:Int) else (n:Int)*10+IntKind.u8.wrap ((x.toNat:Int)-48))=((min (10*n+(x.toNat-48)) 9999:Nat):Int):=by rw[hw1];split<;>omega
           rw[hv] at hg2;have hst:=hst ((min (10*n+(x.toNat-48)) 9999:Nat):Int);rw[hset] at hst;have eg2:ah h g2:=by rw[hg2];exact eg.set (by show h.size<=b;exact hb) _
           rw[show dD g ⟨b,0+xs.length*1,none⟩ (CN ((min (10*n+(x.toNat-48)) 9999:Nat):Int))=g2 from hg2.symm] at hst;refine dP ?_;refine aI ?_;exact nx (min (10*n+(x.toNat-48)) 9999) xs _ _ _ (by exact sb rfl) (by omega) (by omega) hst hp eg2
         · rw[if_neg qd] at hp;rw[hp];refine aa ?_;refine aW ?_;exact⟨_,rfl,⟨_,rfl,rfl,aR.nil _ _ _⟩,eg⟩
   · obtain rfl:i=s.length:=by omega
     have hp:eo s 0=some (xs++[(n:Int)]):=by rw[hp,List.drop_length];rfl
     rw[hp];refine aa ?_;refine aQ (fun q16=>?_) (fun q16=>?_)
     · have hnl:((some (xs++[(n:Int)])).bind fun l:List Int=>if l.length<=16 then some l else none)=none:=if_neg (by omega);rw[hnl];refine aa ?_;refine aW ?_;exact⟨_,rfl,⟨_,rfl,rfl,aR.nil _ _ _⟩,eg⟩
     · have hnl:((some (xs++[(n:Int)])).bind fun l:List Int=>if l.length<=16 then some l else none)=some (xs++[(n:Int)]):=if_pos (by omega);rw[hnl];refine aa ?_;refine aW ?_;exact⟨_,rfl,⟨_,rfl,rfl,bF.read (h1:=fun _=>rfl) ho (fun _ k q=>by omega)⟩,eg⟩
theorem A8 (u:By) (b:UInt8) (hu:u.length<=90000):aj Tryz.prog 58 #[.string (bs u),.int .u8 b.toNat] h (aN fun r h'=>(∃v,r= .tuple #[.string (bs (gP u b).1),v]/\gM h' h.size v (gP u b).2)/\ah h h'):=by
 have hb:=b.toNat_lt;have hbs:=aC u;unfold gP;refine bf ?_;refine aa ?_;refine aQ (fun q0=>?_) (fun q0=>?_)
 · obtain rfl:u=[]:=List.length_eq_zero_iff.1 (by rw[<-hbs,q0];rfl);rw[if_pos rfl];refine aa ?_;refine xo rfl (aG rfl (sZ b)) ?_;rintro _ h1 ⟨⟨v,rfl,ka⟩,e1⟩;obtain⟨oa,m,c,rfl,-⟩:=id ka;refine aa ?_;refine aW ?_;exact⟨_,rfl,⟨_,rfl,ka⟩,e1⟩
 · have hu0:u≠[]:=by rintro rfl;exact q0 rfl
   rw[if_neg hu0];obtain⟨x,tl,hux⟩:=List.exists_cons_of_ne_nil hu0;have hx0:u[0]? =some x:=by rw[hux];rfl
   have hgx:u.getD 0 0=x:=by rw[hux];rfl
   have hul:=List.length_pos_iff.2 hu0;rw[hgx];have hxl:=x.toNat_lt;refine aa ?_;refine xo rfl (kI [_]) ?_;rintro _ h1 ⟨rfl,hh1⟩;refine xp rfl (Ie rfl (show aR .byte h1 (fun _=>False) _ [b] by rw[hh1];exact Bq h b 5)) ?_;refine xp rfl (an.bL rfl rfl (by rw[hbs];show u.length+1<=_;omega)) ?_;have e1:ah h h1:=by rw[hh1];exact Ext.push _ _ _
   have z1:=e1.size;rw[show bs u++(⟨#[b]⟩:ByteArray)=bs (u++[b]) from bg u [b]];have hs0:u++[b]≠[]:=by simp
   have hsl:(u++[b]).length<=100000:=by rw[List.length_append];show u.length+1<=_;omega
   refine aa ?_;refine xp rfl (oK rfl rfl 0 rfl (cQ hx0)) ?_;refine aa ?_;refine aQ (fun q27=>?_) (fun q27=>?_)
   · rw[if_neg (by omega)];unfold rQ;generalize u++[b]=s at *;refine aa ?_;refine xo rfl (aG rfl (lg s hs0 hsl)) ?_;rintro _ h2 ⟨rfl,e2⟩;have e02:=e1.trans e2;refine aa ?_;refine oL (fun qw=>?_) (fun qw=>?_)
     · rw[if_pos qw];refine aa ?_;refine xo rfl (aG rfl (pV s hs0 hsl)) ?_;rintro _ h3 ⟨rfl,e3⟩;have e03:=e02.trans e3;refine aa ?_;refine xo rfl (aG rfl (cT 1 (ij s:Nat))) ?_;rintro _ g9 ⟨ka,f9⟩;obtain⟨oa,m,c,rfl,-⟩:=id ka;refine aa ?_;refine aW ?_;exact⟨_,rfl,⟨_,rfl,ka.low (e03).size⟩,(e03).trans f9⟩
     · rw[if_neg (by rw[qw];decide)];refine aa ?_;refine xo rfl (aG rfl (tV s hsl)) ?_;rintro _ h3 ⟨rfl,e3⟩;have e03:=e02.trans e3;refine aa ?_;refine oL (fun qb=>?_) (fun qb=>?_)
       · rw[if_pos qb];refine aa ?_;refine aW ?_;exact⟨_,rfl,⟨_,rfl,gM.nil⟩,e03⟩
       · rw[if_neg (by rw[qb];decide)];refine aa ?_;refine xo rfl (aG rfl (sZ b)) ?_;rintro _ h4 ⟨⟨v,rfl,ka⟩,e4⟩;have e04:=e03.trans e4;have z3:=e03.size;obtain⟨oa,m,c,news,rfl,hm1,hnl,hnr,hn1,hmore⟩:=ka.more (DT b);refine aa ?_;refine xo rfl (aG rfl (pW 5 0)) ?_;rintro _ h5 ⟨⟨b5,rfl,hb5,k5⟩,e5⟩;have z4:=e4.size;have hnr2:m=0\/∃b o,oa=some ⟨b,o,none⟩/\Lw.rowAt h5 b o news:=hnr.imp id fun⟨b,o,q1,q2⟩=>⟨b,o,q1,e5.rowAt (fun q=>q) q2⟩
         have hown:=DL (base:=h4.size) k5 rfl hb5;refine aa ?_;refine xo rfl (bR underlying122 H.Kl rfl rfl hown hnl hnr2 hn1 (by simp only[maxLen];omega) (by omega) (by have:=e5.size;omega)) ?_;rintro v3 g3 ⟨ho3,x3,-,-⟩;have f3:ah h4 g3:=(e5.mono fun _ _ q=>q.elim:Ext (fun b=>b=b5) h4 h5).trans (x3.mono fun b _ q=>by cases q;rfl) |> fun x=>⟨x.size,fun b hb' _=>x.block b hb' (by omega)⟩
         obtain⟨b3,c3,rfl,hb3,kr3⟩:=Ea ho3 (by omega);refine aa ?_;refine aW ?_;exact⟨_,rfl,⟨_,rfl,(hmore f3 (by omega) kr3).low (by omega)⟩,e04.trans f3⟩
   · have q27:x.toNat=27:=by omega
     rw[if_pos q27];unfold Ag;refine aa ?_;refine aQ (fun r1=>?_) (fun r1=>?_)
     · rw[if_pos (by omega)];refine aa ?_;refine xo rfl (aG rfl (cT 5 0)) ?_;rintro _ g9 ⟨ka,f9⟩;obtain⟨oa,m,c,rfl,-⟩:=id ka;refine aa ?_;refine aW ?_;exact⟨_,rfl,⟨_,rfl,ka.low (e1).size⟩,(e1).trans f9⟩
     · rw[if_neg (by omega)]
       iterate 3 refine aI ?_
       refine dM [(58,.bool (decide (b.toNat=24\/b.toNat=26)))] rfl ?_ ?_
       · refine aa ?_;refine dx 55 (fun g1=>?_) (fun g1=>?_)
         · have g1:=of_decide_eq_true g1;refine aa ?_;exact aL rfl ⟨ak rfl (by rw[decide_eq_true (by omega)]),sb rfl⟩
         · have g1:=of_decide_eq_false g1;refine aa ?_;exact aL rfl ⟨ak rfl (by rw[decide_eq_decide];omega),sb rfl⟩
       · refine aQ (fun r2=>?_) (fun r2=>?_)
         · rw[if_pos r2];refine aa ?_;refine xo rfl (aG rfl (cT 5 0)) ?_;rintro _ g9 ⟨ka,f9⟩;obtain⟨oa,m,c,rfl,-⟩:=id ka;refine aa ?_;refine aW ?_;exact⟨_,rfl,⟨_,rfl,ka.low (e1).size⟩,(e1).trans f9⟩
         · rw[if_neg r2];refine aa ?_;refine aQ (fun r3=>?_) (fun r3=>?_)
           · rw[if_pos (by omega)];refine aI ?_;refine bU ?_
             iterate 2 refine aU ?_
             refine xp rfl (ur rfl (ry _ (by omega))) ?_;refine xo rfl (aG rfl (cT 2 b.toNat)) ?_;rintro _ g9 ⟨ka,f9⟩;obtain⟨oa,m,c,rfl,-⟩:=id ka;refine aa ?_;refine aW ?_;exact⟨_,rfl,⟨_,rfl,ka.low (e1).size⟩,(e1).trans f9⟩
           · rw[if_neg (by omega)];refine aa ?_;refine aQ (fun r4=>?_) (fun r4=>?_)
             · rw[if_pos (by omega)];refine aa ?_;refine aQ (fun r5=>?_) (fun r5=>?_)
               · rw[if_pos (by omega)];refine aa ?_;refine aW ?_;exact⟨_,rfl,⟨_,rfl,gM.nil⟩,e1⟩
               · rw[if_neg (by omega)]
                 iterate 3 refine aI ?_
                 refine dM [(77,.bool (decide (48<=b.toNat/\b.toNat<127)))] rfl ?_ ?_
                 · refine aa ?_;refine dx 74 (fun g1=>?_) (fun g1=>?_)
                   · have g1:=of_decide_eq_true g1;refine aa ?_;exact aL rfl ⟨ak rfl (by rw[decide_eq_decide];omega),sb rfl⟩
                   · have g1:=of_decide_eq_false g1;refine aa ?_;exact aL rfl ⟨ak rfl (by rw[decide_eq_false (by omega)]),sb rfl⟩
                 · refine aQ (fun r6=>?_) (fun r6=>?_)
                   · rw[if_pos r6];refine aa ?_;refine xp rfl (au (H.Ft _ _) rfl) ?_;refine xo rfl (mz) ?_;rintro _ h4 ⟨rfl,hh4⟩;have e4:ah h1 h4:=by rw[hh4];exact Ext.push _ _ _
                     have k4:az h4 h1.size 125 (jo 4 0 (.slice none 0 0) b.toNat):=by rw[hh4];exact cl _ _ _
                     refine aa ?_;refine aW ?_;exact⟨_,rfl,⟨_,rfl,pL k4.row z1 rfl (aR.nil _ _ _)⟩,e1.trans e4⟩
                   · rw[if_neg r6];refine aa ?_;refine xo rfl (aG rfl (cT 5 0)) ?_;rintro _ g9 ⟨ka,f9⟩;obtain⟨oa,m,c,rfl,-⟩:=id ka;refine aa ?_;refine aW ?_;exact⟨_,rfl,⟨_,rfl,ka.low (e1).size⟩,(e1).trans f9⟩
             · rw[if_neg (by omega)];refine aa ?_;refine aQ (fun r7=>?_) (fun r7=>?_)
               · rw[if_pos (by omega)];refine aa ?_;refine aW ?_;exact⟨_,rfl,⟨_,rfl,gM.nil⟩,e1⟩
               · rw[if_neg (by omega)];have hpar:=fun h=>uF (h:=h) (u.drop 2) (by rw[List.length_drop];omega)
                 refine aa ?_;refine xp rfl (an.dB underlying9 rfl rfl 2 rfl (by omega)) ?_;rw[show (bs u).extract 2 (bs u).size=bs (u.drop 2) from iX u 2];refine xo rfl (aG rfl (hpar _)) ?_;rintro _ h5 ⟨⟨v,rfl,hv1,hvs⟩,e5⟩;have e05:=e1.trans e5;have z5:=e5.size;generalize hpp:rW (u.drop 2)=o at *;obtain⟨va,vn,vc,rfl,-⟩:=id hvs.open
                 iterate 5 refine aU ?_
                 refine bJ ?_
                 iterate 2 refine aI ?_
                 refine dM [(96,.bool (decide (126<b.toNat) || !o.isSome))] rfl ?_ ?_
                 · refine aa ?_;refine dx 93 (fun g1=>?_) (fun g1=>?_)
                   · have g1:=of_decide_eq_true g1;refine aa ?_;exact aL rfl ⟨ak rfl (by rw[decide_eq_true (by omega)];rfl),sb rfl⟩
                   · have g1:=of_decide_eq_false g1;refine aa ?_;exact aL rfl ⟨ak rfl (by rw[decide_eq_false (by omega)];rfl),sb rfl⟩
                 · rcases o with _|l
                   · rw[show (decide (126<b.toNat) || !(none:Option (List Int)).isSome)=true by simp];refine fH rfl (by decide) ?_;rw[show (if b.toNat<127 then ([],[FK]) else ([],[FK]):By×List Ac)=([],[FK]) by split<;>rfl];refine aa ?_;refine xo rfl (aG rfl (cT 5 0)) ?_;rintro _ g9 ⟨ka,f9⟩;obtain⟨oa,m,c,rfl,-⟩:=id ka;refine aa ?_;refine aW ?_;exact⟨_,rfl,⟨_,rfl,ka.low (e05).size⟩,(e05).trans f9⟩
                   · by_cases r8:b.toNat<127
                     · rw[if_pos r8,show (decide (126<b.toNat) || !(some l).isSome)=false by rw[decide_eq_false (by omega)];rfl];refine bV rfl (by decide) ?_;refine aa ?_;refine xp rfl (au (H.Bw _ _ _ _ _) rfl) ?_;refine xo rfl (mz) ?_;rintro _ h4 ⟨rfl,hh4⟩;have e4:ah h5 h4:=by rw[hh4];exact Ext.push _ _ _
                       have k4:az h4 h5.size 125 (jo 3 0 (.slice va vn vc) b.toNat):=by rw[hh4];exact cl _ _ _
                       refine aa ?_;refine aW ?_;exact⟨_,rfl,⟨_,rfl,pL k4.row (by omega) rfl ((hvs.af e4).mv (Mv.dI (av (fun _=>False) _) fun b _ ho=>⟨fun q=>q,fun q=>ho (by omega)⟩))⟩,e05.trans e4⟩
                     · rw[if_neg r8,show (decide (126<b.toNat) || !(some l).isSome)=true by rw[decide_eq_true (by omega)];rfl];refine fH rfl (by decide) ?_;refine aa ?_;refine xo rfl (aG rfl (cT 5 0)) ?_;rintro _ g9 ⟨ka,f9⟩;obtain⟨oa,m,c,rfl,-⟩:=id ka;refine aa ?_;refine aW ?_;exact⟨_,rfl,⟨_,rfl,ka.low (e05).size⟩,(e05).trans f9⟩
abbrev TU:=TM×By
def zV (q:TU) (b:UInt8):TU:=((gP q.2 b).2.foldl ji q.1,(gP q.2 b).1)
def cx (q:TU) (s:By):TU:=s.foldl zV q
abbrev HW (h:ai) (tb g n:Nat) (q:TU):Prop:=kF h tb g n q.1 (nW q.2) (oI q.2)
theorem dw.HV:∀(l:List Ac){t:TM},dw t->dw (l.foldl ji t)
 | [],_,h=>h
 |x::l,_,h=>dw.HV l (h.act x)
section
variable {h0 h h':ai}{tb g n:Nat}
theorem jK {t:TM}{a:Nat}{u:By}(k:kF h tb g n t a u):aj Tryz.prog 53 #[.pointer (some ⟨tb,0,none⟩)] h (aN fun r h'=>r= .bool false/\h'=h):=by
 obtain⟨bl,kb⟩:=k.b;refine bf ?_;refine aI ?_;refine bU ?_;refine aU ?_;refine bJ ?_;refine aI ?_;refine dM [(2,.bool false)] rfl ?_ ?_
 · refine aU ?_;refine xp rfl (an.gp underlying76 rfl rfl) ?_;refine aa ?_;refine RW.aO (d:=5) (b':=false) rfl (rfl) ?_;refine aa ?_;refine xp rfl (aA rfl (kb.cell (i:=0) rfl)) ?_;refine aa ?_;exact aL rfl ⟨ak rfl (rfl),sb rfl⟩
 · refine aW ?_;exact⟨_,rfl,rfl,rfl⟩
theorem ux (hW:jH h0) (e0:ah h0 h) (hg:h0.size<=g) (hb:h0.size<=tb){q:TU}(ok:dw q.1) (hu:vw q.2) (k:HW h tb g n q) (hl:q.2.length+s.length<=100000) :
 aj Tryz.prog 32 #[.pointer (some ⟨tb,0,none⟩),.string (bs s)] h (aN fun _ h'=>HW h' tb g n (cx q s)/\dw (cx q s).1/\vw (cx q s).2/\(cx q s).2.length<=q.2.length+s.length/\Ext (fun b=>b=tb\/b=g) h h'):=by
 have hbs:=aC s;have hgl:=k.s.lt;have htl:tb<h.size:=let ⟨_,q⟩:=k.b;q.lt;refine bf ?_;refine aa ?_;refine xo rfl (aG rfl (jK k)) ?_;rintro _ h1 ⟨rfl,hh1⟩;refine aa ?_;subst hh1;refine bV rfl (by decide) ?_;refine aa ?_;refine eR (σ:=Nat×TU) (fun p=>[(13,.int .i64 (p.1:Nat))]) (fun p g'=>p.1<=s.length/\HW g' tb g n p.2/\dw p.2.1/\vw p.2.2/\p.2.2.length<=q.2.length+p.1/\cx p.2 (s.drop p.1)=cx q s/\Ext (fun b=>b=tb\/b=g) h1 g') (fun p=>s.length-p.1) ((0,q)) ⟨Nat.zero_le _,k,ok,hu,Nat.le_refl _,rfl,av _ _⟩ rfl ?_;rintro⟨i,t,u⟩ g1 ⟨hi,kt,okt,oku,hul,hf,xg⟩ ih
 try dsimp only
 dsimp only at hi kt okt oku hul hf;have e0g:=jx e0 xg hb hg;have zxg:=xg.size;obtain⟨bl,kb⟩:=kt.b;refine aa ?_;refine aQ (fun hlt=>?_) (fun hlt=>?_)
 · have hi':i<s.length:=by omega
   obtain⟨x,hx⟩:∃x,s[i]? =some x:=⟨_,List.getElem?_eq_getElem hi'⟩
   have hdr:s.drop i=x::s.drop (i+1):=by rw[List.drop_eq_getElem_cons hi'];congr 1;rw[List.getElem?_eq_getElem hi'] at hx;exact Option.some.inj hx
   rw[hdr] at hf;have hf:cx (zV (t,u) x) (s.drop (i+1))=cx q s:=hf;obtain⟨ou1,ou2,ou3⟩:=DW u x oku
   have kp:Lw.rowAt g1 tb (0+6) (lf (nW u) (oI u)):=fun j v hv=>by
    match j,hv with
    | 0,hv=>cases hv;exact kb.cell (i:=6) rfl
    | 1,hv=>cases hv;exact kb.cell (i:=7) rfl
   have hM:¬Array.size g1<=tb:=by omega
   have hpf:=fun h hg=>A9 (h:=h) hg u x (by omega) oku
   unfold zV at hf;generalize hfd:gP u x=fd at *;obtain⟨u',l⟩:=fd;dsimp only at *
   iterate 4 refine aI ?_
   refine bU ?_
   iterate 2 refine aU ?_
   refine bJ ?_;refine aI ?_;refine Ej 14 (fun b=>Array.size g1<=b) (fun i=>Nat.blt i 12) (fun(w:Value×Nat) (h':ai)=>gM h' g1.size w.1 l/\az h' w.2 111 (lf (nW u') (oI u'))/\g1.size<=w.2/\ah g1 h') (fun(w:Value×Nat)=>[(5,.pointer (some ⟨w.2,0,none⟩)),(6,w.1)]) rfl ?_ ?_
   · refine ax 0 ?_;refine ax 1 ?_;refine ax 2 ?_;refine aS 3 rfl (fun h' e=>bI rfl (e.rowAt hM kp)) ?_;refine ax 4 ?_;refine ax 5 ?_;refine aS 6 rfl (fun h' e=>oK rfl rfl i rfl (cQ hx)) ?_;refine LB 7 11 rfl rfl (aG rfl (hpf _ (hW.af e0g).lx)) (cC) ?_ ?_
     · rintro _ g2 ⟨⟨v,rfl,ka⟩,e2⟩;refine⟨fun _=>e2.of,?_⟩;refine ax 8 ?_;refine ax 9 ?_;refine RD.bq 10 (listed':= #[true,true,true,true,true,true,true,true,true,true,true,false,false,false]) rfl (by kernel_rfl) (by kernel_rfl) (by kernel_rfl) rfl rfl rfl (fun _=>an.extract rfl rfl) rfl ?_;refine ct 11 rfl (cC) ?_;rintro _ g3 ⟨rfl,kn,e3,z3⟩;refine⟨fun _=>e3.of,?_⟩;refine eK 12 rfl (bM rfl rfl kn ((Ij _ _))) ?_;rintro _ g4 ⟨rfl,k4,x4,z4⟩;refine⟨nofun,?_⟩;refine ax 13 ?_;exact qz (v,g2.size) ⟨ka.ext (ah.only e3 x4 (Nat.le_refl _)) (fun _ q=>q.elim),k4,e2.size,e2.trans (ah.only e3 x4 (Nat.le_refl _))⟩
     · rintro _ g2 ⟨rfl,kn,e2,z2⟩;refine⟨fun _=>e2.of,?_⟩;refine ct 7 rfl (aG rfl (hpf _ ((hW.af e0g).af e2).lx)) ?_;rintro _ g3 ⟨⟨v,rfl,ka⟩,e3⟩;refine⟨fun _=>e3.of,?_⟩;refine ax 8 ?_;refine ax 9 ?_;refine RD.bq 10 (listed':= #[true,true,true,true,true,true,true,true,true,true,true,true,false,false]) rfl (by kernel_rfl) (by kernel_rfl) (by kernel_rfl) rfl rfl rfl (fun _=>an.extract rfl rfl) rfl ?_;refine eK 12 rfl (bM rfl rfl ((kn.af e3)) ((Ij _ _))) ?_;rintro _ g4 ⟨rfl,k4,x4,z4⟩;refine⟨nofun,?_⟩;refine ax 13 ?_;exact qz (v,g1.size) ⟨(ka.ext x4 (by omega)).low (by omega),k4,Nat.le_refl _,ah.only (e2.trans e3) x4 (Nat.le_refl _)⟩
   · rintro⟨v6,b5⟩ g2 ⟨ka,k5,hb5,e2⟩;have ka:gM g2 g1.size v6 l:=ka;obtain⟨oa,m,c,rfl,hlm,hm2,-⟩:=id ka;have k5:az g2 b5 111 (lf (nW u') (oI u')):=k5;have kb2:=kb.af e2;have kt2:=kt.af e2;have hne:=kt.ne;refine aa ?_;refine xp rfl (bI rfl k5.row) ?_;refine aa ?_;refine aY rfl (bM rfl rfl kb2 ((Ij _ _))) ?_;rintro _ g3 ⟨rfl,k3,x3,z3⟩;refine aa ?_;have k3:az g3 tb 113 (qB t.rows t.cols g n t.row t.col (nW u') (oI u') t.sy t.waits bl):=k3;have kt3:kF g3 tb g n t (nW u') (oI u'):=⟨⟨bl,k3⟩,kt2.s.ext x3 (fun q=>hne q.symm),kt2.n,hne⟩
     have ka3:=ka.ext x3 (by omega);have x13:Ext (fun b=>b=tb\/b=g) g1 g3:=(e2.mono fun _ _ q=>q.elim).trans (x3.mono fun _ _ q=>.inl q);refine eR (σ:=Nat) (fun j=>[(33,.int .i64 (j:Nat))]) (fun j g'=>j<=m/\kF g' tb g n ((l.take j).foldl ji t) (nW u') (oI u')/\gM g' g1.size (.slice oa m c) l/\Ext (fun b=>b=tb\/b=g) g1 g') (fun j=>m-j) (0) ⟨Nat.zero_le _,kt3,ka3,x13⟩ rfl ?_;rintro j g4 ⟨hj,kt4,ka4,x14⟩ ih2;refine aa ?_;refine aQ (fun hlt2=>?_) (fun hlt2=>?_)
     · have hjl:j<l.length:=by omega
       obtain⟨y,hy⟩:∃y,l[j]? =some y:=⟨_,List.getElem?_eq_getElem hjl⟩
       have e04:=jx e0g x14 hb hg;have z14:=x14.size;obtain⟨oa',m',c',eq,-,-,hrows4⟩:=id ka4;cases eq;obtain⟨b,p,rfl,hbL,hrow,p1,hps⟩:=hrows4 j y hy;have htk:(l.take (j+1)).foldl ji t=ji ((l.take j).foldl ji t) y:=by rw[List.take_add_one,hy,List.foldl_append];rfl
       have okj:=dw.HV (l.take j) okt;obtain⟨hy1,hy2⟩:=ou3 y (List.mem_of_getElem? hy);generalize (l.take j).foldl ji t=tj at *
       iterate 4 refine aI ?_
       refine bU ?_;refine xp rfl (bT rfl rfl j rfl rfl) ?_;refine xp rfl (bI rfl hrow) ?_;refine xo rfl (cC) ?_;rintro _ g5 ⟨rfl,kn,e5,z5⟩;refine aY rfl (bM rfl rfl kn ((Ox p1))) ?_;rintro _ g6 ⟨rfl,k6,x6,z6⟩;refine aa ?_;have e46:ah g4 g6:=ah.only e5 x6 (Nat.le_refl _);have k6:az g6 g4.size 119 (jo y.1 y.2.1 p y.2.2.2):=k6;have hps6:aR Bc g6 (fun b=>b=tb) p y.2.2.1:=hps.mv (Mv.dI e46 fun b _ ho=>⟨fun q=>q,by omega⟩);refine xp rfl (bI rfl k6.row) ?_;refine xo rfl (aG rfl (zT hW (e04.trans e46) hg hb okj (kt4.af e46) y hps6 (by omega) hy2)) ?_;rintro _ g7 ⟨kt7,x7⟩;refine aa ?_;rw[<-htk] at kt7;have x17:=(x14.trans (e46.mono fun _ _ q=>q.elim)).trans x7;exact ih2 (j+1) ⟨by omega,kt7,(ka4.ext (e46.mono fun _ _ q=>q.elim) (fun _ q=>q)).ext x7 (fun b q=>by omega),x17⟩
     · obtain rfl:j=l.length:=by omega
       rw[List.take_length] at kt4;refine aa ?_;exact ih (i+1,(l.foldl ji t,u')) ⟨hi',kt4,dw.HV l okt,ou1,by show u'.length<=_;omega,hf,xg.trans x14⟩
 · obtain rfl:i=s.length:=by omega
   rw[List.drop_length] at hf;have hf:(t,u)=cx q s:=hf;rw[<-hf];refine aa ?_;refine gE ?_;exact⟨_,rfl,kt,okt,oku,hul,xg⟩
end
def uH (rows cols:Nat):TM:= { rows,cols,xs:=List.replicate (rows*cols) cu,row:=0,col:=0,sy:=pP,waits:=false }
theorem qU (m j:Nat):bX (List.replicate m cu) j=cu:=by
 unfold bX;rw[List.getD_eq_getElem?_getD,List.getElem?_replicate];split<;>rfl
theorem GC {rows cols:Nat}(hr:2<=rows/\rows<=100) (hc:8<=cols/\cols<=200):dw (uH rows cols) :=
 ⟨hr,hc,List.length_replicate,by show 0<rows;omega,by show 0<cols;omega,show (0:Int)<=0/\(0:Int)<=8 by decide,fun i _=>H7.blank (qU _ i)⟩
section
variable {h0 h h':ai}{tb g n:Nat}
theorem zQ (hW:jH h){rows cols:Nat}(hr:2<=rows/\rows<=100) (hc:8<=cols/\cols<=200):aj Tryz.prog 31 #[.int .i64 (rows:Nat),.int .i64 (cols:Nat)] h (aN fun r h'=>(∃tb g,r= .tuple #[.pointer (some ⟨tb,0,none⟩),.int .i64 0]/\h.size<=tb/\h.size<=g/\HW h' tb g (rows*cols) (uH rows cols,[]))/\ah h h'):=by
 refine bf ?_;refine aa ?_;refine xo rfl (aG rfl (qf hW hr hc)) ?_;rintro _ h1 ⟨⟨g,rfl,hg,kS⟩,e1⟩;have hlen:(List.replicate (rows*cols) cu).length=rows*cols:=List.length_replicate;have hxs:zA h1 g (uH rows cols).xs:=kS;have hgl:=kS.lt;refine aa ?_;refine xo rfl (cC) ?_;rintro _ h2 ⟨rfl,k2,e2,z2⟩;refine aY rfl (bM rfl rfl k2 ((jw rfl))) ?_;rintro _ h3 ⟨rfl,k3,x3,z3⟩;refine aa ?_;have k3:az h3 h1.size 41 (cy rows cols (qS g (rows*cols)) 0 0):=k3;have z1:=e1.size;refine bV rfl (by decide) ?_;refine aa ?_;refine xp rfl (bI rfl k3.row) ?_;refine xp rfl (au (H.Fw _ _ _ _ _ _) rfl) ?_;refine xo rfl (cM) ?_;rintro _ h4 ⟨rfl,k4,e4,z4⟩;refine aa ?_;have k4:az h4 h3.size 113 (qB rows cols g (rows*cols) (0:Nat) (0:Nat) 0 [] pP false 0):=k4;refine aW ?_;exact⟨_,rfl,⟨_,_,rfl,by omega,hg,⟨⟨0,k4⟩,((hxs.af e2).ext x3 (by omega)).af e4,hlen,by show h3.size≠g;omega⟩⟩,(ah.only (e1.trans e2) x3 z1).trans e4⟩
theorem IK {base n:Nat}{v:Value}{xs:List cY}(k:ay h base 58 6 v n (xs.flatMap cz)) (hn:0<n):∃b c,v= .slice (some ⟨b,0,none⟩) n c/\n<=c/\base<=b/\Lw.rowAt h b 0 (xs.flatMap cz):=by
 obtain⟨oa,c,rfl,o⟩:=ay.open k;obtain⟨b,cur,rfl,hb,-⟩:=o.blk hn
 rcases o.row with q|⟨_,_,e,hr⟩
 · omega
 · cases e;exact⟨b,c,rfl,o.le,hb,hr⟩
theorem uz {q:TU}(ok:dw q.1) (k:HW h tb g n q):aj Tryz.prog 34 #[.pointer (some ⟨tb,0,none⟩)] h (aN fun r h'=>(∃b c,r= .agg (cy q.1.rows q.1.cols (.slice (some ⟨b,0,none⟩) n c) q.1.row q.1.col).toArray/\n<=c/\Lw.rowAt h' b 0 (q.1.xs.flatMap cz))/\ah h h'):=by
 obtain⟨s1,s2,s3⟩:=ok.small k.n;refine bf ?_;refine aa ?_;refine xo rfl (cC) ?_;rintro _ h1 ⟨rfl,k2,e1,z1⟩;refine aa ?_;refine xo rfl (aG rfl (jK (k.af e1))) ?_;rintro _ h2 ⟨rfl,hh2⟩;refine aa ?_;subst hh2;refine bV rfl (by decide) ?_;have k2:az h2 h.size 41 (cy 0 0 (.slice none 0 0) 0 0):=k2;have k1:=k.af e1;obtain⟨bl,kb⟩:=k1.b
 have kf:Lw.rowAt h2 tb (0+1) (cy q.1.rows q.1.cols (qS g n) q.1.row q.1.col):=fun j v hv=>by
  match j,hv with
  | 0,hv=>cases hv;exact kb.cell (i:=1) rfl
  | 1,hv=>cases hv;exact kb.cell (i:=2) rfl
  | 2,hv=>cases hv;exact kb.cell (i:=3) rfl
  | 3,hv=>cases hv;exact kb.cell (i:=4) rfl
  | 4,hv=>cases hv;exact kb.cell (i:=5) rfl
 refine aa ?_;refine xp rfl (bI rfl kf) ?_;refine xo rfl (cC) ?_;rintro _ h3 ⟨rfl,k3,e3,z3⟩;refine aY rfl (bM rfl rfl k3 ((jw rfl))) ?_;rintro _ h4 ⟨rfl,k4,x4,z4⟩;refine aa ?_;have k4:az h4 h2.size 41 (cy q.1.rows q.1.cols (qS g n) q.1.row q.1.col):=k4;have e24:ah h2 h4:=ah.only e3 x4 (Nat.le_refl _);have kt4:=k1.af e24;have hl6:(q.1.xs.flatMap cz).length=n*6:=by rw[cZ,kt4.n]
 refine xp rfl (aA rfl (k4.cell (i:=2) rfl)) ?_;refine xo rfl (bR underlying39 H.yB rfl rfl (ay.nil h4 h4.size 58 6) hl6 (.inr ⟨_,_,rfl,kt4.s.row⟩) (fun v hv=>by obtain⟨x,_,hx⟩:=List.mem_flatMap.1 hv;exact qT x v hx) (by simp only[maxLen];omega) (by omega) (Nat.le_refl _)) ?_;rintro v5 h5 ⟨ho5,he5,-,-⟩;rw[Nat.zero_add,List.nil_append] at ho5;obtain⟨b,c,rfl,hc,hb,kr⟩:=IK ho5 (by omega);have he5:=fO he5;have k45:=k4.af he5;have z25:=e24.size;have z45:=he5.size;rw[Nat.zero_add];refine aa ?_;refine aY rfl (b7 rfl rfl k45) ?_;rintro _ h6 ⟨rfl,k6,x6,z6⟩;refine aa ?_;have k6:az h6 h2.size 41 (cy q.1.rows q.1.cols (.slice (some ⟨b,0,none⟩) n c) q.1.row q.1.col):=k6;have k26:=((k2.af e24).af he5).ext x6 (by omega);refine xp rfl (bI rfl k6.row) ?_;refine aY rfl (bM rfl rfl k26 ((jw rfl))) ?_;rintro _ h7 ⟨rfl,k7,x7,z7⟩;refine aa ?_;have k7:az h7 h.size 41 (cy q.1.rows q.1.cols (.slice (some ⟨b,0,none⟩) n c) q.1.row q.1.col):=k7;refine fG (fT rfl k7.row fF) ?_;exact⟨_,rfl,⟨b,c,rfl,hc,x7.rowAt (by omega) (x6.rowAt (by omega) kr)⟩,ah.only (ah.only ((e1.trans e24).trans he5) x6 (by omega)) x7 (Nat.le_refl _)⟩
end
end
end Go.Proofs.YtckomlgchbkekaaGreatDoor
namespace Go.Proofs.YtckomlgchbkekaaGreatDoor
open Go Go.Lw
set_option maxRecDepth 20000
section
variable {r2 c2 i j s cols:Nat}{t:TM}{ys zs xs:List cY}
def kX (t:TM) (c2 i j:Nat):cY:=if i<t.rows/\j<t.cols then (if j+1=c2/\dH t.xs (i*t.cols+j)=2 then cu else bX t.xs (i*t.cols+j)) else cu
def nT (t:TM) (r2 c2:Nat):List cY:=(List.range (r2*c2)).map fun p=>kX t c2 (p / c2) (p%c2)
def Gm (t:TM) (r2 c2:Nat):TM:= { t with rows:=r2,cols:=c2,xs:=nT t r2 c2,row:=min t.row (r2-1),col:=min t.col (c2-1),waits:=false }
theorem lJ (t:TM) (r2 c2:Nat):(nT t r2 c2).length=r2*c2:=by rw[nT,List.length_map,List.length_range]
theorem Ch {p:Nat}(h:p<r2*c2):p / c2<r2/\(0<c2)/\p%c2<c2/\p / c2*c2+p%c2=p:=by
 have hc:0<c2:=by rcases Nat.eq_zero_or_pos c2 with rfl|h';(rw[Nat.mul_zero] at h;omega);exact h'
 exact⟨Nat.div_lt_of_lt_mul (by rw[Nat.mul_comm];exact h),hc,Nat.mod_lt _ hc,by rw[Nat.mul_comm];exact Nat.div_add_mod p c2⟩
theorem pos_at (hj:j<c2):(i*c2+j) / c2=i/\(i*c2+j)%c2=j:=by
 constructor
 · rw[Nat.mul_comm,Nat.mul_add_div (by omega),Nat.div_eq_of_lt hj,Nat.add_zero]
 · rw[Nat.add_comm,Nat.add_mul_mod_self_right];exact Nat.mod_eq_of_lt hj
theorem Ci (hi:i<r2) (hj:j<c2):i*c2+j<r2*c2:=by
 have:i*c2+c2<=r2*c2:=by rw[<-Nat.succ_mul];exact Nat.mul_le_mul_right _ hi
 omega
theorem qN (t:TM) (hi:i<r2) (hj:j<c2):bX (nT t r2 c2) (i*c2+j)=kX t c2 i j:=by
 obtain⟨h1,h2⟩:=pos_at (i:=i) hj;unfold bX nT;rw[List.getD_eq_getElem?_getD,List.getElem?_map,List.getElem?_range (Ci hi hj)]
 show kX t c2 ((i*c2+j) / c2) ((i*c2+j)%c2)=_
 rw[h1,h2]
theorem DI (hl:ys.length=r2*c2) (h:∀i j,i<r2->j<c2->bX ys (i*c2+j)=kX t c2 i j):ys=nT t r2 c2:=by
 refine oD (by rw[hl,lJ]) fun p hp=>?_
 rw[hl] at hp;obtain⟨h1,h2,h3,h4⟩:=Ch hp;rw[<-h4,h _ _ h1 h3,qN t h1 h3]
theorem Gl (ok:dw t) (hr:2<=r2/\r2<=100) (hc:8<=c2/\c2<=200):dw (Gm t r2 c2):=by
 have h1:=ok.row;have h2:=ok.col;refine⟨hr,hc,lJ _ _ _,by show min t.row (r2-1)<r2;omega,by show min t.col (c2-1)<c2;omega,ok.fg,fun p hp=>?_⟩;have hp:p<(nT t r2 c2).length:=hp;rw[lJ] at hp;obtain⟨h1,h2,h3,h4⟩:=Ch hp
 show H7 c2 (nT t r2 c2) p
 generalize hi:p / c2=i at *;generalize hj:p%c2=j at *;have hat:=qN t h1 h3;rw[h4] at hat
 have hcell:kX t c2 i j=cu\/(i<t.rows/\j<t.cols/\¬(j+1=c2/\dH t.xs (i*t.cols+j)=2)/\kX t c2 i j=bX t.xs (i*t.cols+j)):=by
  unfold kX;split
  · rename_i q;split
    · exact .inl rfl
    · exact .inr ⟨q.1,q.2,by assumption,rfl⟩
  · exact .inl rfl
 rcases hcell with q|⟨q1,q2,q3,q4⟩
 · exact H7.blank (hat.trans q)
 · rw[q4] at hat;have hlt:=Ci q1 q2;rw[<-ok.len] at hlt;have o:=ok.vf _ hlt;obtain⟨m1,m2⟩:=pos_at (i:=i) q2;constructor
   · rw[hat];exact o.fg
   · rw[hat];exact o.w
   · rw[hat];exact o.of
   · rw[hat,hj];intro w2;obtain⟨k1,k2⟩:=o.left w2;rw[m2] at k1
     have hj1:j+1<c2:=by
      by_cases z:j+1=c2
      · exact absurd ⟨z,w2⟩ q3
      · omega
     refine⟨hj1,?_⟩;rw[<-h4,Nat.add_assoc,qN t h1 hj1,kX,if_pos ⟨q1,k1⟩];rw[Nat.add_assoc] at k2;rw[if_neg (fun z=>by rw[dH,k2] at z;cases z.2)];exact k2
   · rw[hat,hj];intro w0;obtain⟨k1,k2,k3,k4⟩:=o.right w0;rw[m2] at k1
     have e:bX (nT t r2 c2) (p-1)=bX t.xs (i*t.cols+j-1):=by
      rw[<-h4,show i*c2+j-1=i*c2+(j-1) by omega,qN t h1 (by omega),kX,if_pos ⟨q1,by omega⟩,if_neg (by omega),show i*t.cols+j-1=i*t.cols+(j-1) by omega]
     rw[e];exact⟨k1,k2,k3,k4⟩
theorem Fi {L:List Value}(hL:L=ys.flatMap cz) (s:Nat) (hs:s+zs.length<=ys.length):over L (s*6) (zs.flatMap cz)=(ys.take s++zs++ys.drop (s+zs.length)).flatMap cz:=by
 subst hL
 have h1:(ys.flatMap cz).take (s*6)=(ys.take s).flatMap cz:=by
  conv=>lhs;rw[<-List.take_append_drop s ys,List.flatMap_append]
  rw[List.take_left' (by rw[cZ,List.length_take,Nat.min_eq_left (by omega)])]
 have h2:(ys.flatMap cz).drop ((s+zs.length)*6)=(ys.drop (s+zs.length)).flatMap cz:=by
  conv=>lhs;rw[<-List.take_append_drop (s+zs.length) ys,List.flatMap_append]
  rw[List.drop_left' (by rw[cZ,List.length_take,Nat.min_eq_left (by omega)])]
 rw[over,cZ,<-Nat.add_mul,h1,h2,List.flatMap_append,List.flatMap_append]
theorem Ja (hs:s+zs.length<=ys.length) (j:Nat):bX (ys.take s++zs++ys.drop (s+zs.length)) j=if s<=j/\j<s+zs.length then bX zs (j-s) else bX ys j:=by
 unfold bX;simp only[List.getD_eq_getElem?_getD];have hl:(ys.take s).length=s:=by rw[List.length_take,Nat.min_eq_left (by omega)]
 by_cases h1:j<s
 · rw[if_neg (by omega),List.getElem?_append_left (by rw[List.length_append,hl];omega),List.getElem?_append_left (by omega),List.getElem?_take_of_lt h1]
 · by_cases h2:j<s+zs.length
   · rw[if_pos ⟨by omega,h2⟩,List.getElem?_append_left (by rw[List.length_append,hl];omega),List.getElem?_append_right (by omega),hl]
   · rw[if_neg (by omega),List.getElem?_append_right (by rw[List.length_append,hl];omega),List.length_append,hl,List.getElem?_drop]
     congr 2
     omega
def nB (zs:List cY) (s m k:Nat):Prop:=dH zs (s+k)=2/\(k+1=m\/dH zs (s+k+1)≠0)\/dH zs (s+k)=0/\(k=0\/dH zs (s+k-1)≠2)
instance (zs:List cY) (s m k:Nat):Decidable (nB zs s m k):=by unfold nB;infer_instance
def fK (zs:List cY) (s m:Nat):Nat->List cY
 | 0=>zs
 |k+1=>if nB (fK zs s m k) s m k then (fK zs s m k).set (s+k) cu else fK zs s m k
theorem oW (zs:List cY) (s m k:Nat):(fK zs s m k).length=zs.length:=by
 induction k with
 |zero=>rfl
 |succ k ih =>
  rw[fK];split
  · rw[List.length_set,ih]
  · exact ih
theorem sB {zs:List cY}{s m:Nat}(hs:s+m<=zs.length){M:Nat->cY}
 (hM:∀k,k<m->M k=if dH zs (s+k)=2/\(k+1=m\/dH zs (s+k+1)≠0)\/dH zs (s+k)=0/\(k=0\/(M (k-1)).2.1≠2) then cu else bX zs (s+k)) :
 ∀k,k<=m->∀j,bX (fK zs s m k) j=if s<=j/\j<s+k then M (j-s) else bX zs j
 | 0,_,j=>by rw[if_neg (by omega)];rfl
 |k+1,hk,j=>by
  have ih:=sB hs hM k (by omega);have hl:=oW zs s m k;have h0:=ih (s+k);have h1:=ih (s+k+1)
  have h2:k≠0->bX (fK zs s m k) (s+k-1)=M (k-1):=fun q=>by
   rw[ih,if_pos ⟨by omega,by omega⟩];congr 1;omega
  rw[if_neg (by omega)] at h0 h1
  have hb:nB (fK zs s m k) s m k↔(dH zs (s+k)=2/\(k+1=m\/dH zs (s+k+1)≠0)\/dH zs (s+k)=0/\(k=0\/(M (k-1)).2.1≠2)):=by
   unfold nB dH;rw[h0,h1];refine or_congr Iff.rfl (and_congr Iff.rfl ?_)
   by_cases q:k=0
   · simp[q]
   · rw[h2 q]
  have hMk:=hM k (by omega);rw[fK]
  by_cases q:nB (fK zs s m k) s m k
  · rw[if_pos q,eG,hl];rw[if_pos (hb.1 q)] at hMk
    by_cases hj:s+k=j
    · subst hj;rw[if_pos ⟨rfl,by omega⟩,if_pos ⟨by omega,by omega⟩,Nat.add_sub_cancel_left,hMk]
    · rw[if_neg (fun z=>hj z.1),ih]
      by_cases z:s<=j/\j<s+k
      · rw[if_pos z,if_pos ⟨z.1,by omega⟩]
      · rw[if_neg z,if_neg (by omega)]
  · rw[if_neg q,ih];rw[if_neg (fun z=>q (hb.2 z))] at hMk
    by_cases hj:s+k=j
    · subst hj;rw[if_neg (by omega),if_pos ⟨by omega,by omega⟩,Nat.add_sub_cancel_left,hMk]
    · by_cases z:s<=j/\j<s+k
      · rw[if_pos z,if_pos ⟨z.1,by omega⟩]
      · rw[if_neg z,if_neg (by omega)]
def FJ (xs:List cY) (a:Nat):Nat->List cY
 | 0=>xs
 |k+1=>(FJ xs a k).set (a+k) cu
theorem qW (xs:List cY) (a k:Nat):(FJ xs a k).length=xs.length:=by
 induction k with
 |zero=>rfl
 |succ k ih=>rw[FJ,List.length_set,ih]
theorem C9 (xs:List cY) (a:Nat):∀k j,bX (FJ xs a k) j=if a<=j/\j<a+k then cu else bX xs j
 | 0,j=>by rw[if_neg (by omega)];rfl
 |k+1,j=>by
  rw[FJ,eG,qW,C9 xs a k j]
  by_cases hj:a+k=j
  · subst hj;rw[if_pos (show a<=a+k/\a+k<a+(k+1) by omega)]
    by_cases hl:a+k<xs.length
    · rw[if_pos ⟨rfl,hl⟩]
    · rw[if_neg (fun z=>hl z.2),if_neg (by omega)];exact oC (by omega)
  · rw[if_neg (fun z=>hj z.1)]
    by_cases z:a<=j/\j<a+k
    · rw[if_pos z,if_pos ⟨z.1,by omega⟩]
    · rw[if_neg z,if_neg (by omega)]
theorem OK:cu.2.1=(1:Int):=rfl
theorem GL (hV:VF cols xs) (hL:vz xs){col w:Nat}(hs:s%cols=0) (hl:s+cols<=xs.length) (hw:col+w<=cols) (h0:0<w):fK (FJ xs (s+col) w) s cols cols=fP xs (s+col) w:=by
 have hbl:=qW xs (s+col) w;have hat:=C9 xs (s+col) w;refine oD (by rw[oW,hbl,cw]) fun j hj=>?_
 rw[oW,hbl] at hj;have hmod:∀i,i<cols->(s+i)%cols=i:=fun i hi=>by rw[Nat.add_mod,hs,Nat.zero_add,Nat.mod_mod,Nat.mod_eq_of_lt hi]
 rw[iE hL (s+col) w (by omega) j hj,sB (M:=fun k=>uN xs (s+col) (s+col+w) (s+k)) (by rw[hbl];exact hl) (fun k hk=>?_) cols (Nat.le_refl _) j]
 · by_cases z:s<=j/\j<s+cols
   · rw[if_pos z,show s+(j-s)=j by omega]
   · rw[if_neg z,hat,if_neg (by omega)];unfold uN;rw[if_neg];rintro⟨-,q|⟨q1,q2⟩|⟨q1,q2⟩⟩
     · omega
     · have hc:col=0:=by omega
       subst hc;have:=((hV (s+0) (by omega)).right q2).1;rw[hmod 0 (by omega)] at this;omega
     · have:=((hV j hj).right (by rw[q1];exact q2)).1;have e:j=s+cols:=by omega
       rw[e,Nat.add_mod_right,hs] at this;omega
 · have ok:=hV (s+k) (by omega);have lk:=hL (s+k) (by omega);have h1:=hat (s+k);have h2:=hat (s+k+1)
   by_cases hin:s+col<=s+k/\s+k<s+col+w
   · rw[if_pos hin] at h1;have hw1:dH (FJ xs (s+col) w) (s+k)=1:=by rw[dH,h1]
     rw[if_neg (by rw[hw1];omega),h1,uN,if_pos ⟨by omega,.inl hin⟩]
   · rw[if_neg hin] at h1;have hw1:dH (FJ xs (s+col) w) (s+k)=dH xs (s+k):=by rw[dH,h1]
     have l1:=fun q=>ok.left q
     have r1:=fun q=>ok.right q
     rw[hmod k hk] at l1 r1
     have hw2:dH (FJ xs (s+col) w) (s+k+1)=if s+col<=s+k+1/\s+k+1<s+col+w then 1 else dH xs (s+k+1):=by
      rw[dH,h2];split<;>rfl
     have hpre:k≠0->dH xs (s+k)=0->((uN xs (s+col) (s+col+w) (s+(k-1))).2.1≠2↔s+k=s+col+w):=fun q0 qw=>by
      have hp:=(r1 qw).2.1;have hp':dH xs (s+k-1)=2:=hp;rw[show s+(k-1)=s+k-1 by omega];unfold uN
      by_cases q:s+col<=s+k-1/\s+k-1<s+col+w
      · rw[if_pos ⟨by omega,.inl q⟩];exact⟨fun _=>by omega,fun _=>by decide⟩
      · rw[if_neg]
        · exact⟨fun z=>absurd hp z,fun z=>absurd ⟨by omega,by omega⟩ q⟩
        · rintro⟨-,z|⟨z1,z2⟩|⟨z1,z2⟩⟩
          · exact q z
          · omega
          · rw[<-z1,hp'] at z2;cases z2
     rw[h1,hw1,hw2];unfold uN at hpre ⊢
     by_cases hbad:s+k+1=s+col/\dH xs (s+col)=0\/s+k=s+col+w/\dH xs (s+col+w)=0
     · rw[if_pos ⟨by omega,.inr hbad⟩,if_pos]
       rcases hbad with ⟨q1,q2⟩|⟨q1,q2⟩
       · have:=((hL (s+col) (by omega)).2 q2).2;rw[<-q1,Nat.add_sub_cancel] at this;exact .inl ⟨this,.inr (by rw[if_pos ⟨by omega,by omega⟩];decide)⟩
       · rw[<-q1] at q2;refine .inr ⟨q2,?_⟩
         by_cases q0:k=0
         · exact .inl q0
         · exact .inr ((hpre q0 q2).2 q1)
     · rw[if_neg (fun z=>z.2.elim hin hbad),if_neg];rintro(⟨q1,q2⟩|⟨q1,q2⟩)
       · obtain⟨z1,z2⟩:=l1 q1;have z2':dH xs (s+k+1)=0:=z2
         rcases q2 with q2|q2
         · omega
         · by_cases u:s+col<=s+k+1/\s+k+1<s+col+w
           · exact hbad (.inl ⟨by omega,by rw[<-show s+k+1=s+col by omega];exact z2'⟩)
           · rw[if_neg u] at q2;exact q2 z2'
       · have z1:=(r1 q1).1
         rcases q2 with q2|q2
         · omega
         · have:=(hpre (by omega) q1).1 q2;exact hbad (.inr ⟨this,by rw[<-this];exact q1⟩)
theorem GK (hV:VF t.cols t.xs) (hl:s+c2<=zs.length) (hi:i<t.rows) (hlen:t.xs.length=t.rows*t.cols) (hz:∀j,j<c2->bX zs (s+j)=if j<t.cols then bX t.xs (i*t.cols+j) else cu) (j:Nat) :
 bX (fK zs s c2 c2) j=if s<=j/\j<s+c2 then kX t c2 i (j-s) else bX zs j:=by
 refine sB hl (fun k hk=>?_) c2 (Nat.le_refl _) j;have h1:=hz k hk;unfold kX
 by_cases hk2:k<t.cols
 · rw[if_pos hk2] at h1;have hlt:=Ci hi hk2;rw[<-hlen] at hlt;have ok:=hV _ hlt;have hm:=(pos_at (i:=i) hk2).2;have l1:=fun q=>ok.left q
   have r1:=fun q=>ok.right q
   rw[hm] at l1 r1;have hw:dH zs (s+k)=dH t.xs (i*t.cols+k):=by rw[dH,h1]
   rw[if_pos ⟨hi,hk2⟩,hw,h1]
   by_cases q:k+1=c2/\dH t.xs (i*t.cols+k)=2
   · rw[if_pos q,if_pos (.inl ⟨q.2,.inl q.1⟩)]
   · rw[if_neg q,if_neg];rintro(⟨q1,q2⟩|⟨q1,q2⟩)
     · obtain⟨z1,z2⟩:=l1 q1
       rcases q2 with q2|q2
       · exact q ⟨q2,q1⟩
       · by_cases hk3:k+1<c2
         · have h3:=hz (k+1) hk3;rw[if_pos z1,<-Nat.add_assoc,<-Nat.add_assoc] at h3;rw[dH,h3] at q2;exact q2 z2
         · exact q ⟨by omega,q1⟩
     · obtain⟨z1,z2,-,-⟩:=r1 q1
       rcases q2 with q2|q2
       · omega
       · rw[if_pos ⟨hi,by omega⟩,if_neg (by omega),show i*t.cols+(k-1)=i*t.cols+k-1 by omega] at q2;exact q2 z2
 · rw[if_neg hk2] at h1;rw[if_neg (fun z=>hk2 z.2),h1,if_neg (by rw[dH,h1,OK];omega)]
theorem vR {rows:Nat}(hV:VF cols xs) (hl:xs.length=rows*cols){a:Nat}(ha:a<xs.length):(fP xs a 1).set a cu=fP xs a 1:=by
 refine oD (List.length_set ..) fun j hj=>?_
 rw[List.length_set,cw] at hj;rw[eG]
 by_cases q:a=j/\a<(fP xs a 1).length
 · rw[if_pos q,iE (hV.link hl) a 1 (by omega) j hj,uN,if_pos ⟨by omega,.inl (by omega)⟩]
 · rw[if_neg q]
theorem E8 {rows:Nat}(hV:VF cols xs) (hl:xs.length=rows*cols){a b:Nat}(hab:a<b) (hb:b<=xs.length):FJ (fP (fP xs a 1) (b-1) 1) a (b-a)=fP xs a (b-a):=by
 have hL:=hV.link hl;have hV1:=hV.fP hL (a:=a) (k:=1) (by omega);have hl1:=cw xs a 1;have hL1:=hV1.link (hl1.trans hl);refine oD (by rw[qW,cw,cw,cw]) fun j hj=>?_
 rw[qW,cw,cw] at hj;rw[C9,iE hL a (b-a) (by omega) j hj,iE hL1 (b-1) 1 (by omega) j (by omega)];have e1:=iE hL a 1 (by omega) j hj
 have hwb:dH (fP xs a 1) b=if b=a+1/\dH xs b=0 then 1 else dH xs b:=by
  by_cases hbl:b<xs.length
  · rw[dH,iE hL a 1 (by omega) b hbl];unfold uN
    by_cases q:b=a+1/\dH xs b=0
    · rw[if_pos q,if_pos ⟨by omega,.inr (.inr ⟨q.1,by rw[<-q.1];exact q.2⟩)⟩]
    · rw[if_neg q,if_neg];rintro⟨-,z|⟨z1,z2⟩|⟨z1,z2⟩⟩
      · omega
      · omega
      · exact q ⟨z1,by rw[z1];exact z2⟩
  · rw[if_neg (fun q=>by rw[dH,oC (by omega)] at q;cases q.2),dH,dH,oC (by omega),oC (by omega)]
 have hwp:∀i,i+1=b->dH (fP xs a 1) i=0->a+1<b/\(dH xs i=0):=fun i hi h0=>by
  subst hi;rw[dH,iE hL a 1 (by omega) i (by omega),uN] at h0
  by_cases q:a=i
  · rw[if_pos ⟨by omega,.inl (by omega)⟩] at h0;cases h0
  · by_cases q2:i=a+1/\dH xs (a+1)=0
    · rw[if_pos ⟨by omega,.inr (.inr q2)⟩] at h0;cases h0
    · rw[if_neg (by rintro⟨-,z|z|z⟩;omega;omega;exact q2 z)] at h0;exact⟨by omega,h0⟩
 unfold uN;rw[e1];unfold uN;rw[show a+(b-a)=b by omega,show b-1+1=b by omega]
 by_cases h1:a<=j/\j<b
 · rw[if_pos h1,if_pos ⟨hab,.inl h1⟩]
 · rw[if_neg h1];refine M5 ⟨fun z=>⟨hab,?_⟩,fun z=>?_⟩
   · rcases z with ⟨-,z|⟨z1,z2⟩|⟨z1,z2⟩⟩|⟨-,z|z|⟨z1,z2⟩⟩
     · omega
     · have:=(hwp (b-1) (by omega) z2).1;omega
     · rw[hwb] at z2;split at z2
       · exact absurd z2 (by decide)
       · exact .inr (.inr ⟨z1,z2⟩)
     · omega
     · exact .inr (.inl z)
     · exact .inr (.inr ⟨by omega,by rw[show b=a+1 by omega];exact z2⟩)
   · rcases z.2 with z|z|⟨z1,z2⟩
     · exact absurd z h1
     · exact .inr ⟨by omega,.inr (.inl z)⟩
     · by_cases z3:b=a+1
       · exact .inr ⟨by omega,.inr (.inr ⟨by omega,by rw[<-z3];exact z2⟩)⟩
       · exact .inl ⟨by omega,.inr (.inr ⟨z1,by rw[hwb,if_neg (fun q=>z3 q.1)];exact z2⟩)⟩
end
end Go.Proofs.YtckomlgchbkekaaGreatDoor
namespace Go.Proofs.YtckomlgchbkekaaGreatDoor
open Go.Proofs.Tryz
open Go Go.Lw
set_option maxRecDepth 20000 set_option maxHeartbeats 4000000
section
variable {i rows cols n c g c2 tb:Nat}{v:Value}{h:ai}{row col r:Int}{xs:List cY}{t:TM}{u:By}
def iP (h:ai) (g n:Nat) (xs:List cY):Prop:=xs.length=n/\∃z,az h g 58 (xs.flatMap cz++z)
abbrev gI (g n c:Nat):Value:=.slice (some ⟨g,0,none⟩) n c
section
variable {h h':ai}{g n:Nat}{xs:List cY}
theorem iP.row (k:iP h g n xs):Lw.rowAt h g 0 (xs.flatMap cz):=let ⟨_,_,q⟩:=k;fun j v hv=>q.row j v (by rw[List.getElem?_append_left (List.getElem?_eq_some_iff.1 hv).1];exact hv)
theorem iP.lt (k:iP h g n xs):g<h.size:=let ⟨_,_,q⟩:=k;q.lt
theorem iP.ext {M:Nat->Prop}(k:iP h g n xs) (x:Ext M h h') (hm:¬M g):iP h' g n xs:=⟨k.1,let ⟨z,q⟩:=k.2;⟨z,q.ext x hm⟩⟩
theorem iP.af (k:iP h g n xs) (x:ah h h'):iP h' g n xs:=k.ext x fun q=>q
theorem iP.at (k:iP h g n xs) (hi:i<n):Lw.rowAt h g (0+i*6) (cz (bX xs i)):=jA k.row (by rw[k.1];exact hi)
theorem iP.open (k:iP h g n xs):∃L,az h g 58 L/\n*6<=L.length/\∀{h'':ai}(i:Nat) (c:cY),i<n->az h'' g 58 (over L (0+i*6) (cz c))->iP h'' g n (xs.set i c):=by
 obtain⟨hl,z,q⟩:=k;refine⟨_,q,by rw[List.length_append,cZ,hl];omega,fun i c hi k=>⟨by rw[List.length_set,hl],z,?_⟩⟩
 have e:over (xs.flatMap cz++z) (0+i*6) (cz c)=over (xs.flatMap cz) (0+i*6) (cz c)++z:=by
  have h6:(cz c).length=6:=rfl;have hx:=cZ xs;unfold over;rw[List.take_append_of_le_length (by omega),List.drop_append_of_le_length (by rw[h6];omega),List.append_assoc,List.append_assoc,List.append_assoc]
 rw[e,Bo rfl c (by rw[hl];exact hi)] at k;exact k
theorem iP.own {base:Nat}(k:ay h base 58 6 v n (xs.flatMap cz)) (hn:0<n):∃g c,v=gI g n c/\n<=c/\base<=g/\iP h g n xs:=by
 have hl:=k.1;rw[cZ] at hl
 rcases k.2 with ⟨_,q⟩|⟨g,c,cur,rfl,hb,hg,hnc,hc,hs,ht⟩
 · omega
 · exact⟨g,c,rfl,hnc,hb,by omega,cur.toList.drop (n*6),by rw[<-ht,List.take_append_drop];exact hg⟩
end
theorem sC (a b:Int):aj Tryz.prog 89 #[.int .i64 a,.int .i64 b] h (aN fun r h'=>r= .bool (fL a b)/\h'=h):=by
 unfold fL;refine bf ?_;refine aI ?_;refine bU ?_;refine aU ?_;refine bJ ?_;refine aI ?_;refine dM [(4,.bool (decide (2<=a/\a<=100/\8<=b/\b<=200)))] rfl ?_ ?_
 · refine aa ?_;refine dx 7 (fun g1=>?_) (fun g1=>?_)
   · have h1:=of_decide_eq_true g1;refine aa ?_;refine dx 11 (fun g2=>?_) (fun g2=>?_)
     · have h2:=of_decide_eq_true g2;refine aa ?_;refine dx 15 (fun g3=>?_) (fun g3=>?_)
       · have h3:=of_decide_eq_true g3;refine aa ?_;exact aL rfl ⟨ak rfl (by exact decide_eq_decide.2 (by omega)),sb rfl⟩
       · refine aa ?_;exact aL rfl ⟨ak rfl (by have:=of_decide_eq_false g3;exact(decide_eq_false (by omega)).symm),sb rfl⟩
     · refine aa ?_;exact aL rfl ⟨ak rfl (by have:=of_decide_eq_false g2;exact(decide_eq_false (by omega)).symm),sb rfl⟩
   · refine aa ?_;exact aL rfl ⟨ak rfl (by have:=of_decide_eq_false g1;exact(decide_eq_false (by omega)).symm),sb rfl⟩
 · refine aW ?_;exact⟨_,rfl,rfl,rfl⟩
theorem iw:aj Tryz.prog 90 #[] h (aN fun r h'=>r= .agg (cz cu).toArray/\ah h h'):=by
 refine bf ?_;refine aa ?_;refine xo rfl (cC) ?_;rintro _ h1 ⟨rfl,k1,e1,z1⟩;refine aa ?_;refine xp rfl (au (H.HG _ _) rfl) ?_;refine aY rfl (bM rfl rfl k1 ((qT cu))) ?_;rintro _ h2 ⟨rfl,k2,x2,z2⟩;refine aa ?_;have k2:az h2 h.size 58 (cz cu):=k2;refine fG (fT rfl k2.row fF) ?_;exact⟨_,rfl,rfl,ah.only e1 x2 (Nat.le_refl _)⟩
theorem nI (s:qY) (hs:0<=s.1/\s.1<=8):aj Tryz.prog 150 #[.agg (jL s).toArray] h (aN fun r h'=>r= .bool true/\ah h h'):=by
 refine bf ?_;refine aa ?_;refine xo rfl (cM) ?_;rintro _ h1 ⟨rfl,k1,e1,z1⟩;have k1:az h1 h.size 56 (jL s):=k1;refine aU ?_;refine bJ ?_;refine aI ?_;refine dM [(2,.bool true)] rfl ?_ ?_
 · refine aa ?_;refine xp rfl (aA rfl (k1.cell (i:=0) rfl)) ?_;refine aa ?_;refine RW.aO (d:=6) (b':=true) rfl (by simp;omega) ?_;refine aa ?_;refine xp rfl (aA rfl (k1.cell (i:=0) rfl)) ?_;refine aa ?_;exact aL rfl ⟨ak rfl (by simp;omega),sb rfl⟩
 · refine aW ?_;exact⟨_,rfl,rfl,e1⟩
theorem lH (hr:2<=rows/\rows<=100) (hc:8<=cols/\cols<=200):aj Tryz.prog 57 #[.int .i64 (rows:Nat),.int .i64 (cols:Nat)] h (aN fun r h'=>(∃g c,r= .tuple #[.agg (cy rows cols (gI g (rows*cols) c) 0 0).toArray,.int .i64 0]/\rows*cols<=c/\h.size<=g/\iP h' g (rows*cols) (List.replicate (rows*cols) cu))/\ah h h'):=by
 have hm:fL (rows:Nat) (cols:Nat)=true:=decide_eq_true (by omega);have hmul:(rows:Int)*(cols:Int)=((rows*cols:Nat):Int):=by push_cast;rfl
 have hlo:rows*cols<=20000:=Nat.mul_le_mul hr.2 hc.2;have hpos:0<rows*cols:=Nat.mul_pos (by omega) (by omega);refine bf ?_;refine aa ?_;refine xo rfl (cC) ?_;rintro _ h1 ⟨rfl,k4,e1,z1⟩;refine aa ?_;refine xo rfl (aG rfl (sC rows cols)) ?_;rintro _ h2 ⟨rfl,hh2⟩;subst hh2;rw[hm];refine aa ?_;refine bV rfl (by decide) ?_;refine aa ?_;refine xp rfl (au (H.HK _ _) rfl) ?_;refine xo rfl (cC) ?_;rintro _ h3 ⟨rfl,k6,e3,z3⟩;refine aY rfl (bM rfl rfl k6) ?_;rintro _ h4 ⟨rfl,k5,x4,z4⟩;have k5:az h4 h2.size 41 (cy rows cols (.slice none 0 0) 0 0):=k5;have e24:ah h2 h4:=ah.only e3 x4 (Nat.le_refl _);have k44:=k4.af e24;have hz2:h2.size<h4.size:=by omega
 have hz1:h.size<h2.size:=by omega
 generalize hn:rows*cols=n at *;refine aa ?_;refine eR (σ:=Nat×Value) (fun q=>[(7,.int .i64 (q.1:Nat))]) (fun q g=>q.1<=n/\az g h2.size 41 (cy rows cols q.2 0 0)/\eP 6 cz g h4.size 58 q.2 (List.replicate q.1 cu)/\Ext (fun b=>b=h2.size) h4 g) (fun q=>n-q.1) ((0,.slice none 0 0)) ⟨Nat.zero_le _,k5,eP.nil _ _ _ _ _,av _ _⟩ rfl ?_;rintro⟨i,w⟩ g ⟨hi,kc,ko,xg⟩ ih
 try dsimp only
 dsimp only at hi kc ko;have zg:=xg.size
 iterate 2 refine aI ?_
 refine bU ?_
 iterate 3 refine aU ?_
 refine xp rfl (an.dK rfl rfl (by rw[hmul];omega)) ?_;rw[hmul];refine aa ?_;refine aQ (fun hlt=>?_) (fun hlt=>?_)
 · have hil:i<n:=by omega
   have hM:∀y,y<h4.size->¬(b8 w.ownBlock y\/Array.size g<=y):=fun y hy q=>by
    rcases q with q|q
    · have:=(ay.lt ko q.symm).1;omega
    · omega
   have hrl:(List.replicate i cu).length=i:=List.length_replicate;have hbk:=fun h=>iw (h:=h)
   refine aa ?_;refine uq 7 (fun y=>b8 w.ownBlock y\/Array.size g<=y) (fun i=>Nat.blt i 6) ?_;refine ax 0 ?_;refine aS 1 rfl (fun h' e=>aA rfl (e.cell (hM h2.size (by omega)) (kc.cell (i:=2) rfl))) ?_;refine ct 2 rfl (aG rfl (hbk _)) ?_;rintro _ g1 ⟨rfl,e1'⟩;refine⟨fun _=>(e1'.of.mono fun _ _ k=>.inr k),?_⟩;refine ct 3 rfl (mz) ?_;rintro _ _ ⟨rfl,rfl⟩;refine⟨fun _=>by first|exact Ext.push _ _ _|assumption,?_⟩;refine ct 4 rfl (aH.dO underlying39 H.yB rfl rfl ((ay.DY ko e1')) rfl rfl ((qT cu)) (by rw[hrl];omega) (by decide) (by have:=e1'.size;omega)) ?_;rintro v2 g2 ⟨ho2,hx2,hx2',hv2⟩;refine⟨fun _=>(hx2'.mono fun _ _ k=>.inl k),?_⟩;have ho2:eP 6 cz g2 h4.size 58 v2 (List.replicate i cu++[cu]):=eP.of ho2 rfl rfl;rw[<-List.replicate_succ'] at ho2;obtain⟨wa,wc,rfl,_⟩:=ay.open ho2;have kc2:=(kc.af e1').ext hx2 (fun q=>by have:=(ay.lt ko q.symm).1;omega);refine ax 5 ?_;refine eK 6 rfl (b7 rfl rfl kc2) ?_;rintro _ g3 ⟨rfl,k5',x5,w5⟩;refine⟨nofun,?_⟩;refine dP ?_;refine aa ?_
   exact ih (i+1,_) ⟨hil,k5',ay.ext x5 ho2 (fun b hb q=>by have:=(ay.lt ho2 hb).1;omega),⟨by have:=hx2.size;have:=e1'.size;omega,fun y hy hm=>by
    have zx:=hx2.size;have zy:=e1'.size;exact(x5.block y (by omega) hm).trans ((hx2.block y (by omega) (fun q=>by have:=(ay.lt ko q.symm).1;omega)).trans ((e1'.block y (by omega) (fun q=>q)).trans (xg.block y hy hm)))⟩⟩ (by show n-(i+1)<n-i;omega)
 · obtain rfl:i=n:=by omega
   have ko':ay g h4.size 58 6 w i ((List.replicate i cu).flatMap cz):=by have q:=ko;unfold eP at q;rw[List.length_replicate] at q;exact q
   obtain⟨b,c',rfl,hc',hb,kr⟩:=iP.own ko' hpos;have k4g:=k44.ext xg (by omega);refine aa ?_;refine xp rfl (bI rfl kc.row) ?_;refine aY rfl (bM rfl rfl k4g ((jw rfl))) ?_;rintro _ g1 ⟨rfl,k7,x7,w7⟩;refine aa ?_;have k7:az g1 h.size 41 (cy rows cols (gI b i c') 0 0):=k7;refine fG (fT rfl k7.row (kZ fF)) ?_;have E:ah h g:=ah.only (e1.trans e24) xg (by omega);exact⟨_,rfl,⟨b,c',rfl,hc',by omega,kr.ext x7 (by omega)⟩,ah.only E x7 (Nat.le_refl _)⟩
theorem xL (k:iP h g n xs) (h0:0<n) (hn:n<=20000):aj Tryz.prog 149 #[.agg (cy rows cols (gI g n c) row col).toArray] h (aN fun r h'=>(∃g c,r= .agg (cy rows cols (gI g n c) row col).toArray/\n<=c/\h.size<=g/\iP h' g n xs)/\ah h h'):=by
 refine bf ?_;refine aa ?_;refine xo rfl (cM) ?_;rintro _ h1 ⟨rfl,k1,e1,z1⟩;refine xo rfl (cC) ?_;rintro _ h2 ⟨rfl,k2,e2,z2⟩;have k1:az h2 h.size 41 (cy rows cols (gI g n c) row col):=k1.af e2;have e02:=e1.trans e2;have kk:=k.af e02;have hl6:(xs.flatMap cz).length=n*6:=by rw[cZ,k.1]
 refine aa ?_;refine xp rfl (aA rfl (k1.cell (i:=2) rfl)) ?_;refine xo rfl (bR underlying39 H.yB rfl rfl (ay.nil h2 h2.size 58 6) hl6 (.inr ⟨_,_,rfl,kk.row⟩) (fun v hv=>by obtain⟨x,_,hx⟩:=List.mem_flatMap.1 hv;exact qT x v hx) (by simp only[maxLen];omega) (by omega) (Nat.le_refl _)) ?_;rintro v5 h5 ⟨ho5,he5,-,-⟩;rw[Nat.zero_add,List.nil_append] at ho5;obtain⟨b,c',rfl,hc,hb,kr⟩:=iP.own ho5 h0;have he5:=fO he5;rw[Nat.zero_add];refine aa ?_;refine aY rfl (b7 rfl rfl ((k1.af he5))) ?_;rintro _ h6 ⟨rfl,k6,x6,z6⟩;refine aa ?_;have k6:az h6 h.size 41 (cy rows cols (gI b n c') row col):=k6;have z02:=e02.size;have k26:=(k2.af he5).ext x6 (by omega);refine xp rfl (bI rfl k6.row) ?_;refine aY rfl (bM rfl rfl k26 ((jw rfl))) ?_;rintro _ h7 ⟨rfl,k7,x7,z7⟩;refine aa ?_;have k7:az h7 h1.size 41 (cy rows cols (gI b n c') row col):=k7;refine fG (fT rfl k7.row fF) ?_;have z25:=he5.size;exact⟨_,rfl,⟨b,c',rfl,hc,by omega,(kr.ext x6 (by omega)).ext x7 (by omega)⟩,ah.only (ah.only (e02.trans he5) x6 (by omega)) x7 (by omega)⟩
theorem FV (a b:Nat):Int.tmod (a:Int) (b:Int)=((a%b:Nat):Int):=rfl
theorem JJ (a b:Nat):Int.tdiv (a:Int) (b:Int)=((a / b:Nat):Int):=rfl
theorem xR {w:Int}(h:cU r=w) (hw:w≠0):∃m:Nat,r=m/\m<2147483648:=by
 unfold cU at h;split at h
 · exact absurd h.symm hw
 · exact⟨r.toNat,by omega,by omega⟩
theorem mH (hr:2<=rows/\rows<=100) (hc:8<=cols/\cols<=200) (hn:rows*cols=n) (k:iP h g n xs) (hV:VF cols xs) (hr1:0<=row/\row<rows) (hc1:0<=col/\col<cols) :
 aj Tryz.prog 103 #[.agg (cy rows cols (gI g n c) row col).toArray] h (aN fun r h'=>r= .bool true/\ah h h'):=by
 have hm:fL (rows:Nat) (cols:Nat)=true:=decide_eq_true (by omega);have hmul:(rows:Int)*(cols:Int)=(n:Nat):=by rw[<-hn];push_cast;rfl
 have hlo:n<=20000:=by rw[<-hn];exact Nat.mul_le_mul hr.2 hc.2
 have hxl:=k.1;have hL:vz xs:=hV.link (rows:=rows) (by rw[hxl,hn]);refine bf ?_;refine aa ?_;refine xo rfl (cM) ?_;rintro _ h1 ⟨rfl,k1,e1,z1⟩;have k1:az h1 h.size 41 (cy rows cols (gI g n c) row col):=k1;have kk:=k.af e1;refine aU ?_;refine bJ ?_
 iterate 2 refine aI ?_
 refine dM [(47,.bool false)] rfl ?_ ?_
 · refine aa ?_;refine xp rfl (aA rfl (k1.cell (i:=0) rfl)) ?_;refine aa ?_;refine xp rfl (aA rfl (k1.cell (i:=1) rfl)) ?_;refine xo rfl (aG rfl (sC rows cols)) ?_;rintro _ h3 ⟨rfl,hh3⟩;subst hh3;rw[hm];refine aa ?_;refine RW.aO (d:=13) (b':=false) rfl (by decide) ?_;refine aa ?_;refine xp rfl (aA rfl (k1.cell (i:=2) rfl)) ?_;refine aa ?_;refine xp rfl (aA rfl (k1.cell (i:=0) rfl)) ?_;refine aa ?_;refine xp rfl (aA rfl (k1.cell (i:=1) rfl)) ?_;refine xp rfl (an.dK rfl rfl (by rw[hmul];omega)) ?_;rw[hmul];refine aa ?_;refine RW.aO (d:=24) (b':=false) rfl (by simp) ?_;refine aa ?_;refine xp rfl (aA rfl (k1.cell (i:=3) rfl)) ?_;refine aa ?_;refine RW.aO (d:=29) (b':=false) rfl (decide_eq_false (by omega)) ?_;refine aa ?_;refine xp rfl (aA rfl (k1.cell (i:=3) rfl)) ?_;refine aa ?_;refine xp rfl (aA rfl (k1.cell (i:=0) rfl)) ?_;refine aa ?_;refine RW.aO (d:=36) (b':=false) rfl (decide_eq_false (by omega)) ?_;refine aa ?_;refine xp rfl (aA rfl (k1.cell (i:=4) rfl)) ?_;refine aa ?_;refine RW.aO (d:=41) (b':=false) rfl (decide_eq_false (by omega)) ?_;refine aa ?_;refine xp rfl (aA rfl (k1.cell (i:=4) rfl)) ?_;refine aa ?_;refine xp rfl (aA rfl (k1.cell (i:=1) rfl)) ?_;refine aa ?_;exact aL rfl ⟨ak rfl (by rw[decide_eq_false (by omega)]),sb rfl⟩
 · refine bV rfl (by decide) ?_;refine aa ?_;refine zB (σ:=Nat) (fun i=>[(1,.pointer (some ⟨h.size,0,none⟩)),(3,.int .i64 (i:Nat))]) (fun i g'=>i<=n/\ah h1 g') (fun i=>n-i) (0) ⟨Nat.zero_le _,av _ _⟩ ?_;rintro i g1 ⟨hi,eg⟩ ih;have k1g:=k1.af eg;have kg:=kk.af eg;refine aa ?_;refine xp rfl (aA rfl (k1g.cell (i:=2) rfl)) ?_;refine aa ?_;refine aQ (fun hlt=>?_) (fun hlt=>?_)
   · have hil:i<n:=by omega
     have ok:=hV i (by omega);have lk:=hL i (by omega);have hrow:=kg.at hil;have hrp:=kg.at (i:=i-1) (by omega);have hrn:i+1<n->_:=fun q=>kg.at (i:=i+1) q
     have o1:=ok.fg;have o2:=ok.w;have o3:=ok.of;have o4:=ok.left;have o5:=ok.right;have lk2:=lk.1;have lk3:=lk.2;unfold dH at lk2 lk3
     rcases hce:bX xs i with ⟨r,w,st⟩
     rw[hce] at hrow o1 o2 o3 o4 o5 lk2 lk3;dsimp only at o1 o2 o3 o4 o5 lk2 lk3;refine aa ?_;refine xp rfl (aA rfl (k1g.cell (i:=2) rfl)) ?_;refine aU ?_;refine xp rfl (bT rfl rfl i rfl rfl) ?_;refine xp rfl (bI rfl hrow) ?_;refine xo rfl (cC) ?_;rintro _ g2 ⟨rfl,k4,e4,z4⟩;refine aY rfl (bM rfl rfl k4 ((qT (r,w,st)))) ?_;rintro _ g3 ⟨rfl,k5,x5,z5⟩;have k5:az g3 g1.size 58 (cz (r,w,st)):=k5;have e13:ah g1 g3:=ah.only e4 x5 (Nat.le_refl _);have k13:=k1g.af e13;have kg3:=kg.af e13;refine bJ ?_;refine aI ?_;refine uo (fun b=>Array.size g3<=b) (fun i=>Nat.blt i 15) (sz:=15) (listed:= #[false,false,false,false,false,false,false,false,false,false,false,false,false,false,false]) func103 H.mixed rfl rfl rfl ?_;refine ax 0 ?_;refine ax 1 ?_;refine aS 2 rfl (fun h' e=>aA rfl (e.old (k13.cell (i:=1) rfl))) ?_;refine aS 3 rfl (fun h' e=>cI rfl rfl (by omega)) ?_;refine ax 4 ?_;refine ax 5 ?_;refine ax 6 ?_;refine aS 7 rfl (fun h' e=>aA rfl (e.old (k13.cell (i:=1) rfl))) ?_;refine aS 8 rfl (fun h' e=>cI rfl rfl (by omega)) ?_;refine ax 9 ?_;refine aS 10 rfl (fun h' e=>aA rfl (e.old (k13.cell (i:=1) rfl))) ?_;refine ax 11 ?_;rw[FV]
     have k5s:Lw.rowAt g3 g1.size (0+2) (jL st):=fun j v hv=>by
      match j,hv with
      | 0,hv=>cases hv;exact k5.cell (i:=2) rfl
      | 1,hv=>cases hv;exact k5.cell (i:=3) rfl
      | 2,hv=>cases hv;exact k5.cell (i:=4) rfl
      | 3,hv=>cases hv;exact k5.cell (i:=5) rfl
     generalize hmi:i%cols=m at *;have hml:m<cols:=by rw[<-hmi];exact Nat.mod_lt _ (by omega)
     refine ax 12 ?_;refine ax 13 ?_;refine ax 14 ?_;refine dP ?_
     iterate 2 refine aI ?_
     refine BS (fun(_u:Unit) (h':ai)=>ah g3 h') (fun(_u:Unit)=>[(86,.bool false)]) rfl ?_ ?_
     · refine aa ?_;refine xp rfl (bI rfl k5s) ?_;refine xo rfl (aG rfl (nI st o1)) ?_;rintro _ g4 ⟨rfl,e5⟩;refine aa ?_;refine RW.aO (d:=77) (b':=false) rfl (rfl) ?_;refine aa ?_;refine xp rfl (aA rfl ((k5.af e5).cell (i:=1) rfl)) ?_;refine aa ?_;refine RW.aO (d:=82) (b':=false) rfl ((by simp;omega)) ?_;refine aa ?_;refine xp rfl (aA rfl ((k5.af e5).cell (i:=1) rfl)) ?_;refine aa ?_;exact ef () e5 ⟨ak rfl (by simp;omega),sb rfl⟩
     · rintro-g4 e5;refine bV rfl (by decide) ?_;have k54:=k5.af e5;have hM4:¬Array.size g4<=g1.size:=by have:=k54.lt;omega
       iterate 3 refine aI ?_
       refine Ej 11 (fun b=>Array.size g4<=b) (fun i=>Nat.blt i 11) (fun(_u:Unit) (h':ai)=>ah g4 h') (fun(_u:Unit)=>[(97,.bool false)]) rfl ?_ ?_
       · refine ax 0 ?_;refine aS 1 rfl (fun h' e=>aA rfl (e.cell hM4 (k54.cell (i:=1) rfl))) ?_;refine ax 2 ?_;refine ax 3 ?_
         by_cases hw0:w=0
         · refine RD.aO (d:=90) (b':=false) rfl ((by simp;omega)) ?_;refine Dt 4 ?_;refine Dt 5 ?_;refine Dt 6 ?_;refine Dt 7 ?_;refine Dt 8 ?_;refine Dt 9 ?_;refine ax 10 ?_;exact qz () (av _ _) ⟨ak rfl (rfl),sb rfl⟩
         · refine RD.aO (d:=90) (b':=true) rfl ((by simp;omega)) ?_;obtain⟨m',rfl,hm'⟩:=xR (o3 hw0) hw0;have hof:=fun h=>jQ (h:=h) m' hm'
           rw[o3 hw0] at hof;refine ax 4 ?_;refine aS 5 rfl (fun h' e=>aA rfl (e.cell hM4 (k54.cell (i:=0) rfl))) ?_;refine ax 7 ?_;refine aS 8 rfl (fun h' e=>aA rfl (e.cell hM4 (k54.cell (i:=1) rfl))) ?_;refine ct 6 rfl (aG rfl (hof _)) ?_;rintro _ g5 ⟨rfl,e6⟩;refine⟨fun _=>e6.of,?_⟩;refine ax 9 ?_;refine ax 10 ?_;exact qz () e6 ⟨ak rfl (by simp),sb rfl⟩
       · rintro-g5 e6;refine bV rfl (by decide) ?_;have e15:=((e13.trans e5).trans e6)
         have k55:=k54.af e6;have k15:=k1g.af e15;have k5s5:=(e5.trans e6).rowAt (fun q=>q) k5s;have hrp5:=e15.rowAt (fun q=>q) hrp
         iterate 3 refine aI ?_
         refine dM [(113,.bool false)] rfl ?_ ?_
         · refine aa ?_;refine xp rfl (aA rfl (k55.cell (i:=1) rfl)) ?_;refine aa ?_
           by_cases hw2:w=2
           · refine RW.aO (d:=101) (b':=true) rfl ((decide_eq_true hw2)) ?_;obtain⟨q1,q2⟩:=o4 hw2;have hil2:=(lk2 hw2).1;have hrn5:=e15.rowAt (fun q=>q) (hrn (by omega))
             rcases hcf:bX xs (i+1) with ⟨r',w',st'⟩
             rw[hcf] at hrn5 q2;dsimp only at q2;refine aa ?_;refine RW.aO (d:=103) (b':=false) rfl (decide_eq_false (by omega)) ?_;refine aa ?_;refine xp rfl (aA rfl (k15.cell (i:=2) rfl)) ?_
             iterate 2 refine aU ?_
             refine xp rfl (bT rfl rfl (i+1) rfl rfl) ?_;refine aa ?_;refine xp rfl (aA rfl (hrn5 1 _ rfl)) ?_;refine aa ?_;exact aL rfl ⟨ak rfl (by simp[q2]),sb rfl⟩
           · refine RW.aO (d:=101) (b':=false) rfl ((decide_eq_false hw2)) ?_;refine aa ?_;exact aL rfl ⟨ak rfl (rfl),sb rfl⟩
         · refine bV rfl (by decide) ?_
           iterate 2 refine aI ?_
           refine G.eB [(146,.bool false)] [(1,_),(3,_),(4,_),(5,_),(6,_),(52,_),(86,_),(97,_),(113,_)] ⟨rfl,rfl,rfl,rfl,rfl,rfl,rfl,rfl,rfl,trivial⟩ func103 H.mixed rfl (by kernel_rfl) ?_ ?_
           · refine mU ?_;refine bP rfl (aA rfl (k55.cell (i:=1) rfl)) ?_;refine aa ?_
             by_cases hw0:w=0
             · refine RQ.aO (d:=117) (b':=true) rfl ((decide_eq_true hw0)) ?_;obtain⟨q1,q2,q3,q4⟩:=o5 hw0;have hi0:=(lk3 hw0).1
               rcases hcf:bX xs (i-1) with ⟨r',w',st'⟩
               rw[hcf] at hrp5 q2 q4;dsimp only at q2 q4
               have hsp:Lw.rowAt g5 g (0+(i-1)*6+2) (jL st'):=fun j v hv=>by
                match j,hv with
                | 0,hv=>cases hv;exact hrp5 2 _ rfl
                | 1,hv=>cases hv;exact hrp5 3 _ rfl
                | 2,hv=>cases hv;exact hrp5 4 _ rfl
                | 3,hv=>cases hv;exact hrp5 5 _ rfl
               refine aa ?_;refine RQ.aO (d:=119) (b':=false) rfl (decide_eq_false (by omega)) ?_;refine aa ?_;refine bP rfl (aA rfl (k15.cell (i:=2) rfl)) ?_
               iterate 2 refine mU ?_
               refine bP rfl (bT rfl rfl (i-1) (by omega) rfl) ?_;refine aa ?_;refine bP rfl (aA rfl (hrp5 1 _ rfl)) ?_;refine aa ?_;refine RQ.aO (d:=129) (b':=false) rfl ((by simp[q2])) ?_;refine aa ?_;refine bP rfl (aA rfl (k55.cell (i:=0) rfl)) ?_;refine aa ?_;refine RQ.aO (d:=134) (b':=false) rfl ((by simp[q3])) ?_;refine aa ?_;refine bP rfl (bI rfl k5s5) ?_;refine aa ?_;refine bP rfl (aA rfl (k15.cell (i:=2) rfl)) ?_
               iterate 2 refine mU ?_
               refine bP rfl (bT rfl rfl (i-1) (by omega) rfl) ?_;refine aa ?_;refine bP rfl (bI rfl hsp) ?_;refine bP rfl (an.nh oq qL yp rfl rfl (JU 9998 st st')) ?_;refine aa ?_;exact jq rfl ⟨ak rfl (by simp[q4]),sb rfl⟩
             · refine RQ.aO (d:=117) (b':=false) rfl ((decide_eq_false hw0)) ?_;refine aa ?_;exact jq rfl ⟨ak rfl (rfl),sb rfl⟩
           · refine bV rfl (by decide) ?_;refine aa ?_;exact ih (i+1) ⟨hil,eg.trans e15⟩
   · refine aa ?_;refine aW ?_;exact⟨_,rfl,rfl,e1.trans eg⟩
theorem iP.sub (k:iP h g n xs){s:Nat}(hi:s+i<n):Lw.rowAt h g (s*6+i*6) (cz (bX xs (s+i))):=by
 have:=k.at hi
 rwa [show 0+(s+i)*6=s*6+i*6 by omega] at this
theorem pX {s m:Nat}(k:iP h g n xs) (hs:s+m<=n) (hn:n<=20000):aj Tryz.prog 104 #[.slice (some ⟨g,s*6,none⟩) m c] h (aN fun _ h'=>iP h' g n (fK xs s m m)/\Ext (fun b=>b=g\/h.size<=b) h h'):=by
 have hgl:=k.lt;refine bf ?_;refine aa ?_;refine eR (σ:=Nat) (fun i=>[(2,.int .i64 (i:Nat))]) (fun i g'=>i<=m/\iP g' g n (fK xs s m i)/\Ext (fun b=>b=g\/h.size<=b) h g') (fun i=>m-i) (0) ⟨Nat.zero_le _,k,av _ _⟩ rfl ?_;rintro i g1 ⟨hi,kz,xg⟩ ih;refine aa ?_;refine aQ (fun hlt=>?_) (fun hlt=>?_)
 · have him:i<m:=by omega
   have hstep:fK xs s m (i+1)=if nB (fK xs s m i) s m i then (fK xs s m i).set (s+i) cu else fK xs s m i:=rfl
   generalize fK xs s m i=zs at *;have r1:=kz.sub (s:=s) (i:=i) (by omega)
   iterate 4 refine aI ?_
   refine dM [(51,.bool (decide (nB zs s m i)))] rfl ?_ ?_
   · iterate 2 refine aU ?_
     refine xp rfl (bT rfl rfl i rfl rfl) ?_;refine aa ?_;refine xp rfl (aA rfl (r1 1 _ rfl)) ?_;refine aa ?_
     by_cases hw2:dH zs (s+i)=2
     · refine RW.aO (d:=15) (b':=true) rfl ((decide_eq_true hw2)) ?_;refine aa ?_
       by_cases him1:i+1=m
       · refine RW.aO (d:=21) (b':=true) rfl (decide_eq_true (by omega)) ?_;refine aa ?_;exact aL rfl ⟨ak rfl (by rw[decide_eq_true (show nB zs s m i from .inl ⟨hw2,.inl him1⟩)]),sb rfl⟩
       · refine RW.aO (d:=21) (b':=false) rfl (decide_eq_false (by omega)) ?_;have r2:=kz.sub (s:=s) (i:=i+1) (by omega);rw[<-Nat.add_assoc] at r2
         iterate 3 refine aU ?_
         refine xp rfl (bT rfl rfl (i+1) rfl rfl) ?_;refine aa ?_;refine xp rfl (aA rfl (r2 1 _ rfl)) ?_;refine aa ?_
         by_cases hw':dH zs (s+i+1)=0
         · refine RW.aO (d:=31) (b':=false) rfl ((decide_eq_false (fun q=>q hw'))) ?_
           iterate 2 refine aU ?_
           refine xp rfl (bT rfl rfl i rfl rfl) ?_;refine aa ?_;refine xp rfl (aA rfl (r1 1 _ rfl)) ?_;refine aa ?_;refine RW.aO (d:=38) (b':=false) rfl ((decide_eq_false (fun q=>by have q:dH zs (s+i)=0:=q;omega))) ?_;refine aa ?_;exact aL rfl ⟨ak rfl (by rw[decide_eq_false (show ¬nB zs s m i by unfold nB;omega)]),sb rfl⟩
         · refine RW.aO (d:=31) (b':=true) rfl ((decide_eq_true hw')) ?_;refine aa ?_;exact aL rfl ⟨ak rfl (by rw[decide_eq_true (show nB zs s m i from .inl ⟨hw2,.inr hw'⟩)]),sb rfl⟩
     · refine RW.aO (d:=15) (b':=false) rfl ((decide_eq_false hw2)) ?_
       iterate 14 refine OA ?_
       iterate 4 refine aU ?_
       refine xp rfl (bT rfl rfl i rfl rfl) ?_;refine aa ?_;refine xp rfl (aA rfl (r1 1 _ rfl)) ?_;refine aa ?_
       by_cases hw0:dH zs (s+i)=0
       · refine RW.aO (d:=38) (b':=true) rfl ((decide_eq_true hw0)) ?_;refine aa ?_
         by_cases hi0:i=0
         · refine RW.aO (d:=41) (b':=true) rfl (decide_eq_true (by omega)) ?_;refine aa ?_;exact aL rfl ⟨ak rfl (by rw[decide_eq_true (show nB zs s m i from .inr ⟨hw0,.inl hi0⟩)]),sb rfl⟩
         · refine RW.aO (d:=41) (b':=false) rfl (decide_eq_false (by omega)) ?_;have r2:=kz.sub (s:=s) (i:=i-1) (by omega);rw[show s+(i-1)=s+i-1 by omega] at r2
           iterate 3 refine aU ?_
           refine xp rfl (bT rfl rfl (i-1) (by omega) rfl) ?_;refine aa ?_;refine xp rfl (aA rfl (r2 1 _ rfl)) ?_;refine aa ?_;exact aL rfl ⟨ak rfl (by rw[decide_eq_decide];unfold nB;exact⟨fun q=>.inr ⟨hw0,.inr q⟩,fun q=>q.elim (fun q=>absurd q.1 hw2) fun q=>q.2.resolve_left hi0⟩),sb rfl⟩
       · refine RW.aO (d:=38) (b':=false) rfl ((decide_eq_false hw0)) ?_;refine aa ?_;exact aL rfl ⟨ak rfl (by rw[decide_eq_false (show ¬nB zs s m i from fun q=>q.elim (fun q=>hw2 q.1) fun q=>hw0 q.1)]),sb rfl⟩
   · refine aQ (fun hb=>?_) (fun hb=>?_)
     · rw[if_pos hb] at hstep;refine aa ?_;refine xo rfl (aG rfl iw) ?_;rintro _ g2 ⟨rfl,e2⟩;obtain⟨L,kL,hL,hov⟩:=(kz.af e2).open;refine xp rfl (bT rfl rfl i rfl rfl) ?_;refine aY rfl (aH.bZ H.lu rfl rfl kL rfl (by omega) ((qT cu))) ?_;rintro _ g3 ⟨rfl,k3,x3,z3⟩;refine bJ ?_;refine aI ?_;refine bU ?_
       iterate 2 refine aU ?_
       have k3:az g3 g 58 (over L (s*6+i*6) (cz cu)):=k3;rw[show s*6+i*6=0+(s+i)*6 by omega] at k3;have k3:=hov (s+i) cu (by omega) k3;rw[<-hstep] at k3;have z2:=e2.size;have zx:=xg.size;refine aa ?_;exact ih (i+1) ⟨him,k3,(xg.trans (e2.mono fun _ _ q=>q.elim)).trans (x3.mono fun _ _ q=>.inl q)⟩
     · rw[if_neg hb] at hstep;rw[<-hstep] at kz;refine aa ?_;exact ih (i+1) ⟨him,kz,xg⟩
 · obtain rfl:i=m:=by omega
   refine aa ?_;refine gE ?_;exact⟨_,rfl,kz,xg⟩
def Ar (xs:List cY) (a:Nat) (r:Int) (s:qY):List cY :=
 let ys:=(fP xs a (cU r).toNat).set a (r,cU r,s)
 if cU r=2 then ys.set (a+1) (0,0,s) else ys
theorem Gu (xs:List cY) (a:Nat) (r:Int) (s:qY):(Ar xs a r s).length=xs.length:=by
 unfold Ar;dsimp only;split
 · rw[List.length_set,List.length_set,cw]
 · rw[List.length_set,cw]
theorem lE (hr:2<=rows/\rows<=100) (hc:8<=cols/\cols<=200) (hn:rows*cols=n) (k:iP h g n xs) (hV:VF cols xs) (hr1:0<=row/\row<rows) (hc1:0<=col/\col<cols) (hcap:n<=c)
 {j:Nat}{s:qY}(hi:i<rows) (hw:cU r=1\/cU r=2) (hj:j+(cU r).toNat<=cols) (hs:0<=s.1/\s.1<=8) :
 aj Tryz.prog 98 #[.agg (cy rows cols (gI g n c) row col).toArray,.int .i64 (i:Nat),.int .i64 (j:Nat),.int .i32 r,.agg (jL s).toArray] h (aN fun q h'=>(∃g c,q= .agg (cy rows cols (gI g n c) row col).toArray/\n<=c/\h.size<=g/\iP h' g n (Ar xs (i*cols+j) r s))/\ah h h'):=by
 have hlo:n<=20000:=by rw[<-hn];exact Nat.mul_le_mul hr.2 hc.2
 have h0:0<n:=by rw[<-hn];exact Nat.mul_pos (by omega) (by omega)
 have hL:vz xs:=hV.link (rows:=rows) (by rw[k.1,hn]);have hsl:i*cols+cols<=n:=by rw[<-hn,<-Nat.succ_mul];exact Nat.mul_le_mul_right _ hi
 have hm1:(i:Int)*(cols:Int)=((i*cols:Nat):Int):=by push_cast;rfl
 have hm2:((i:Int)+1)*(cols:Int)=((i*cols+cols:Nat):Int):=by push_cast;rw[Int.add_mul,Int.one_mul]
 have hmod:(i*cols)%cols=0:=Nat.mul_mod_left _ _;obtain⟨m,hrm,hrl⟩:=xR (r:=r) (w:=cU r) rfl (by omega);obtain⟨w,hw2,hw12⟩:∃w:Nat,cU r=w/\(w=1\/w=2):=by rcases hw with q|q;exact⟨1,q,.inl rfl⟩;exact⟨2,q,.inr rfl⟩
 have hof:=fun h=>jQ (h:=h) m hrl
 rw[<-hrm] at hof;unfold Ar;rw[hw2,Int.toNat_natCast] at hj;rw[hw2] at hof;rw[hw2,Int.toNat_natCast];refine bf ?_;refine aa ?_;refine xo rfl (cM) ?_;rintro _ h1 ⟨rfl,k5,e1,z1⟩;refine xo rfl (cM) ?_;rintro _ h2 ⟨rfl,k9,e2,z2⟩;refine xo rfl (cC) ?_;rintro _ h3 ⟨rfl,k10,e3,z3⟩;have k5:az h3 h.size 41 (cy rows cols (gI g n c) row col):=(k5.af e2).af e3;have k9:az h3 h1.size 56 (jL s):=k9.af e3;have e03:=(e1.trans e2).trans e3;refine aa ?_;refine xp rfl (bI rfl k5.row) ?_;refine xo rfl (aG rfl (mH hr hc hn (k.af e03) hV hr1 hc1)) ?_;rintro _ h4 ⟨rfl,e4⟩;refine aa ?_;refine bV rfl (by decide) ?_;have e04:=e03.trans e4;refine aa ?_;refine xp rfl (bI rfl (k5.af e4).row) ?_;refine xo rfl (aG rfl (xL (k.af e04) h0 hlo)) ?_;rintro _ h5 ⟨⟨g2,c2,rfl,hc2,hg2,kc⟩,e5⟩;refine aY rfl (bM rfl rfl (((k5.af e4).af e5)) ((jw rfl))) ?_;rintro _ h6 ⟨rfl,k6,x6,z6⟩;have k6:az h6 h.size 41 (cy rows cols (gI g2 n c2) row col):=k6;have z04:=e04.size;have z5:=e5.size;have zz3:=e3.size;have zz2:=e2.size;have zz4:=e4.size;have e06:ah h h6:=ah.only (e04.trans e5) x6 (Nat.le_refl _);have kc6:=kc.ext x6 (by omega);have k96:=((k9.af e4).af e5).ext x6 (by omega);have k106:=((k10.af e4).af e5).ext x6 (by omega);refine aa ?_;refine xo rfl (aG rfl (hof _)) ?_;rintro _ h7 ⟨rfl,e7⟩;have k67:=k6.af e7;have k97:=k96.af e7;have kc7:=kc6.af e7;refine aU ?_;refine bJ ?_
 iterate 2 refine aI ?_
 refine BS (fun(_u:Unit) (h':ai)=>ah h7 h') (fun(_u:Unit)=>[(56,.bool false)]) rfl ?_ ?_
 · refine aa ?_;refine RW.aO (d:=24) (b':=false) rfl ((by rw[decide_eq_false_iff_not];omega)) ?_;refine xp rfl (bI rfl k97.row) ?_;refine xo rfl (aG rfl (nI s hs)) ?_;rintro _ h8 ⟨rfl,e8⟩;refine aa ?_;refine RW.aO (d:=29) (b':=false) rfl (rfl) ?_;refine aa ?_;refine RW.aO (d:=33) (b':=false) rfl (decide_eq_false (by omega)) ?_;refine aa ?_;refine xp rfl (aA rfl ((k67.af e8).cell (i:=0) rfl)) ?_;refine aa ?_;refine RW.aO (d:=39) (b':=false) rfl (decide_eq_false (by omega)) ?_;refine aa ?_;refine RW.aO (d:=43) (b':=false) rfl (decide_eq_false (by omega)) ?_;refine aa ?_;refine xp rfl (aA rfl ((k67.af e8).cell (i:=1) rfl)) ?_;refine aa ?_;refine RW.aO (d:=49) (b':=false) rfl (decide_eq_false (by omega)) ?_;refine aa ?_;refine xp rfl (aA rfl ((k67.af e8).cell (i:=1) rfl)) ?_;refine aa ?_;exact ef () e8 ⟨ak rfl (by rw[decide_eq_false (by omega)]),sb rfl⟩
 · rintro-h8 e8;refine bV rfl (by decide) ?_;have k68:=k67.af e8;have k98:=k97.af e8;have kc8:=kc7.af e8;have k108:=(k106.af e7).af e8;have hg2l:=kc8.lt;have hbl:=GL hV hL (s:=i*cols) (col:=j) (w:=w) hmod (by rw[k.1];exact hsl) hj (by omega);generalize hs0:i*cols=s0 at *;refine aa ?_;refine xp rfl (aA rfl (k68.cell (i:=2) rfl)) ?_;refine aa ?_;refine xp rfl (aA rfl (k68.cell (i:=1) rfl)) ?_;refine xp rfl (an.dK rfl rfl (by rw[hm1];omega)) ?_;refine aa ?_;refine xp rfl (aA rfl (k68.cell (i:=1) rfl)) ?_;refine xp rfl (an.dK rfl rfl (by rw[hm2];omega)) ?_;refine xp rfl (an.jN underlying39 H.lu rfl rfl s0 hm1 rfl (s0+cols) hm2 (by omega) (by omega)) ?_
   have hp1:aP (some ⟨g2,0,none⟩) s0 6 c2=some ⟨g2,s0*6,none⟩:=by
    unfold aP;rw[if_neg (by omega),Option.map_some,Addr.add,Nat.zero_add];split
    · rename_i e;rw[e]
    · rfl
   rw[hp1,show s0+cols-s0=cols by omega];refine aa ?_;refine eR (σ:=Nat) (fun q=>[(13,.int .i64 (q:Nat))]) (fun q g'=>q<=w/\iP g' g2 n (FJ xs (s0+j) q)/\Ext (fun b=>b=g2\/h8.size<=b) h8 g') (fun q=>w-q) (0) ⟨Nat.zero_le _,kc8,av _ _⟩ rfl ?_;rintro q g1 ⟨hq,kz,xg⟩ ih;have zx:=xg.size;refine aa ?_;refine aQ (fun hlt=>?_) (fun hlt=>?_)
   · refine aa ?_;refine xo rfl (aG rfl iw) ?_;rintro _ g3 ⟨rfl,f3⟩;obtain⟨L,kL,hL',hov⟩:=(kz.af f3).open;refine xp rfl (bT rfl rfl (j+q) rfl rfl) ?_;refine aY rfl (aH.bZ H.lu rfl rfl kL rfl (by omega) ((qT cu))) ?_;rintro _ g4 ⟨rfl,k4,x4,z4⟩;refine bJ ?_;refine aI ?_;refine bU ?_
     iterate 2 refine aU ?_
     have k4:az g4 g2 58 (over L (s0*6+(j+q)*6) (cz cu)):=k4;rw[show s0*6+(j+q)*6=0+(s0+j+q)*6 by omega] at k4;have k4:=hov (s0+j+q) cu (by omega) k4;refine aa ?_;exact ih (q+1) ⟨by omega,k4,(xg.trans (f3.mono fun _ _ q=>q.elim)).trans (x4.mono fun _ _ q=>.inl q)⟩
   · obtain rfl:q=w:=by omega
     refine aa ?_;refine xo rfl (aG rfl (pX kz (s:=s0) (m:=cols) hsl hlo)) ?_;rintro _ g3 ⟨km,xm⟩;rw[hbl] at km;have hx83:Ext (fun b=>b=g2\/h8.size<=b) h8 g3:=xg.trans (xm.mono fun b _ q=>by omega);have hz9:h2.size<h8.size:=k108.lt;have k93:=k98.ext hx83 (by omega);obtain⟨L,kL,hL',hov⟩:=km.open;refine aa ?_;refine xp rfl (bI rfl k93.row) ?_;refine xp rfl (au (H.nA _ _ _ _ _ _) rfl) ?_;refine xp rfl (bT rfl rfl j rfl rfl) ?_;refine aY rfl (aH.bZ H.lu rfl rfl kL rfl (by omega) ((qT (r,(q:Int),s)))) ?_;rintro _ g4 ⟨rfl,k4,x4,z4⟩;have k4:az g4 g2 58 (over L (s0*6+j*6) (cz (r,(q:Int),s))):=k4;rw[show s0*6+j*6=0+(s0+j)*6 by omega] at k4;have k4:=hov (s0+j) _ (by omega) k4;have hx84:Ext (fun b=>b=g2\/h8.size<=b) h8 g4:=hx83.trans (x4.mono fun _ _ q=>.inl q);refine aa ?_
     have fin:∀(ys:List cY) (h':ai) (ρ':Env),Sub [(5,.pointer (some ⟨h.size,0,none⟩)),(10,.pointer (some ⟨h2.size,0,none⟩))] ρ'->iP h' g2 n ys->ys=(if (q:Int)=2 then ((fP xs (s0+j) q).set (s0+j) (r,(q:Int),s)).set (s0+j+1) (0,0,s) else (fP xs (s0+j) q).set (s0+j) (r,(q:Int),s))->Ext (fun b=>b=g2\/h8.size<=b) h8 h'->G Tryz.prog 98 f98 [.code [1,1,1,1,1,1,1,1,1,1]] ρ' h' (aN fun v h'=>(∃g c,v= .agg (cy rows cols (gI g n c) row col).toArray/\n<=c/\h.size<=g/\iP h' g n (if (q:Int)=2 then ((fP xs (s0+j) q).set (s0+j) (r,(q:Int),s)).set (s0+j+1) (0,0,s) else (fP xs (s0+j) q).set (s0+j) (r,(q:Int),s)))/\ah h h'):=by
      rintro ys g5 ρ' hsub ky hys x5;refine G.sub (ρ':=[(5,.pointer (some ⟨h.size,0,none⟩)),(10,.pointer (some ⟨h2.size,0,none⟩))]) hsub ?_;rw[<-hys];have k65:=k68.ext x5 (by omega);have k105:=k108.ext x5 (by omega);refine aa ?_;refine xp rfl (bI rfl k65.row) ?_;refine aY rfl (bM rfl rfl k105 ((jw rfl))) ?_;rintro _ g6 ⟨rfl,k11,x11,z11⟩;refine aa ?_;have k11:az g6 h2.size 41 (cy rows cols (gI g2 n c2) row col):=k11;refine fG (fT rfl k11.row fF) ?_;have E:ah h g5:=⟨Nat.le_trans ((e06.trans e7).trans e8).size x5.size,fun b hb _=>(x5.block b (by have:=((e06.trans e7).trans e8).size;omega) (by have:=((e06.trans e7).trans e8).size;omega)).trans (((e06.trans e7).trans e8).block b hb (fun q=>q))⟩
      exact⟨_,rfl,⟨g2,c2,rfl,hc2,by omega,ky.ext x11 (by omega)⟩,ah.only E x11 (by omega)⟩
     refine aQ (fun qw=>?_) (fun qw=>?_)
     · have k94:=k98.ext hx84 (by omega);obtain⟨L2,kL2,hL2,hov2⟩:=k4.open;refine aa ?_;refine xp rfl (bI rfl k94.row) ?_;refine xp rfl (au (H.Db _ _ _ _) rfl) ?_;refine xp rfl (bT rfl rfl (j+1) rfl rfl) ?_;refine aY rfl (aH.bZ H.lu rfl rfl kL2 rfl (by omega) ((qT (0,0,s)))) ?_;rintro _ g5 ⟨rfl,k7,x7,z7⟩;refine bJ ?_;have k7:az g5 g2 58 (over L2 (s0*6+(j+1)*6) (cz (0,0,s))):=k7;rw[show s0*6+(j+1)*6=0+(s0+j+1)*6 by omega] at k7;have k7:=hov2 (s0+j+1) _ (by omega) k7;exact fin _ _ _ (by exact sb rfl) k7 (by rw[if_pos (by omega)]) (hx84.trans (x7.mono fun _ _ q=>.inl q))
     · refine aI ?_;exact fin _ _ _ (by exact sb rfl) k4 (by rw[if_neg (by omega)]) hx84
def qC (f:Nat->cY) (xs:List cY) (a:Nat):Nat->List cY
 | 0=>xs
 |k+1=>(qC f xs a k).set (a+k) (f k)
theorem rJ (f:Nat->cY) (xs:List cY) (a k:Nat):(qC f xs a k).length=xs.length:=by
 induction k with
 |zero=>rfl
 |succ k ih=>rw[qC,List.length_set,ih]
theorem qM (f:Nat->cY) (xs:List cY) (a:Nat):∀k,a+k<=xs.length->∀j,bX (qC f xs a k) j=if a<=j/\j<a+k then f (j-a) else bX xs j
 | 0,_,j=>by rw[if_neg (by omega)];rfl
 |k+1,hk,j=>by
  rw[qC,eG,rJ,qM f xs a k (by omega) j]
  by_cases hj:a+k=j
  · subst hj;rw[if_pos ⟨rfl,by omega⟩,if_pos ⟨by omega,by omega⟩,Nat.add_sub_cancel_left]
  · rw[if_neg (fun z=>hj z.1)]
    by_cases z:a<=j/\j<a+k
    · rw[if_pos z,if_pos ⟨z.1,by omega⟩]
    · rw[if_neg z,if_neg (by omega)]
theorem IE {k j:Nat}(hj:j<c2) (hik:i≠k):¬(k*c2<=i*c2+j/\i*c2+j<k*c2+c2):=fun z=>by
 have h1:=(pos_at (i:=i) hj).1
 have h2:(i*c2+j) / c2=k:=by
  rw[show i*c2+j=k*c2+(i*c2+j-k*c2) by omega];exact(pos_at (by omega)).1
 omega
theorem Aj (ok:dw t) (k:iP h g n t.xs) (hcap:n<=c){r2:Nat}(hr:2<=r2/\r2<=100) (hc:8<=c2/\c2<=200) :
 aj Tryz.prog 63 #[.agg (cy t.rows t.cols (gI g n c) t.row t.col).toArray,.int .i64 (r2:Nat),.int .i64 (c2:Nat)] h (aN fun q h'=>(∃g c,q= .tuple #[.agg (cy r2 c2 (gI g (r2*c2) c) (min t.row (r2-1):Nat) (min t.col (c2-1):Nat)).toArray,.int .i64 0]/\r2*c2<=c/\h.size<=g/\iP h' g (r2*c2) (nT t r2 c2))/\ah h h'):=by
 have t1:=ok.rows;have t2:=ok.cols;have t3:=ok.row;have t4:=ok.col;have hn:=k.1;have hnn:t.rows*t.cols=n:=by rw[<-hn];exact ok.len.symm
 have hn2:n<=20000:=by rw[<-hnn];exact Nat.mul_le_mul t1.2 t2.2
 have hN2:r2*c2<=20000:=Nat.mul_le_mul hr.2 hc.2;refine bf ?_;refine aa ?_;refine xo rfl (cM) ?_;rintro _ h1 ⟨rfl,k3,e1,z1⟩;refine xo rfl (cC) ?_;rintro _ h2 ⟨rfl,k6,e2,z2⟩;have k3:az h2 h.size 41 (cy t.rows t.cols (gI g n c) t.row t.col):=k3.af e2;have e02:=e1.trans e2;refine aa ?_;refine xo rfl (aG rfl (lH hr hc)) ?_;rintro _ h3 ⟨⟨g2,cN,rfl,hcN,hg2,kN⟩,e3⟩;refine aa ?_;refine xo rfl (cC) ?_;rintro _ h4 ⟨rfl,k8,e4,z4⟩;refine aY rfl (bM rfl rfl k8 ((jw rfl))) ?_;rintro _ h5 ⟨rfl,k5,x5,z5⟩;have k5:az h5 h3.size 41 (cy r2 c2 (gI g2 (r2*c2) cN) 0 0):=k5;have e35:ah h3 h5:=ah.only e4 x5 (Nat.le_refl _);have e05:=(e02.trans e3).trans e35;have hg2l:=kN.lt;have hz2:=e1.size;have hz3:=e3.size;have hz5:=e35.size;have kN5:=kN.af e35;have k35:=(k3.af e3).af e35;have k65:=((k6.af e3).af e35)
 refine aU ?_;refine bJ ?_
 iterate 2 refine aI ?_
 refine BS (fun(z:Unit) (h':ai)=>ah h5 h') (fun(z:Unit)=>[(24,.bool false)]) rfl ?_ ?_
 · refine aa ?_;refine RW.aO (d:=20) (b':=false) rfl (rfl) ?_;refine xp rfl (bI rfl k35.row) ?_;refine xo rfl (aG rfl (mH t1 t2 hnn (k.af e05) ok.vf (row:=t.row) (col:=t.col) ⟨by omega,by omega⟩ ⟨by omega,by omega⟩)) ?_;rintro _ h6 ⟨rfl,e6⟩;refine aa ?_;exact ef () e6 ⟨ak rfl (rfl),sb rfl⟩
 · rintro-h6 e6;refine bV rfl (by decide) ?_;have e06:=e05.trans e6;have k36:=k35.af e6;have k56:=k5.af e6;have k66:=k65.af e6;have kS6:=k.af e06;have kN6:=kN5.af e6;have hz6:=e6.size;have hgl:=k.lt;have hbl0:∀j,bX (List.replicate (r2*c2) cu) j=cu:=fun j=>qU _ j
   generalize hNN:r2*c2=N at *;obtain⟨mr,hmr⟩:∃mr,mr=min r2 t.rows:=⟨_,rfl⟩
   refine aa ?_;refine eR (σ:=Nat) (fun i=>[(10,.int .i64 (i:Nat))]) (fun i g'=>i<=mr/\Ext (fun b=>b=g2\/h6.size<=b) h6 g'/\∃ys,iP g' g2 N ys/\∀a j,a<r2->j<c2->bX ys (a*c2+j)=if a<i then kX t c2 a j else cu) (fun i=>mr-i) (0) ⟨Nat.zero_le _,av _ _,_,kN6,fun a j _ _=>by rw[if_neg (by omega)];exact hbl0 _⟩ rfl ?_;rintro i g1 ⟨hi,xg,ys,kz,hya⟩ ih;have k3g:=k36.ext xg (by omega);have k5g:=k56.ext xg (by omega);have k6g:=k66.ext xg (by omega);have zxg:=xg.size
   iterate 2 refine aI ?_
   refine dM [(34,.bool (decide (i<mr)))] rfl ?_ ?_
   · refine aa ?_;refine dx 29 (fun g1=>?_) (fun g1=>?_)
     · have g1:=of_decide_eq_true g1;refine aa ?_;refine xp rfl (aA rfl (k3g.cell (i:=0) rfl)) ?_;refine aa ?_;exact aL rfl ⟨ak rfl (by rw[decide_eq_decide];omega),sb rfl⟩
     · have g1:=of_decide_eq_false g1;refine aa ?_;exact aL rfl ⟨ak rfl (by rw[decide_eq_false (by omega)]),sb rfl⟩
   · refine aQ (fun hlt=>?_) (fun hlt=>?_)
     · have hir:i<r2:=by omega
       have hit:i<t.rows:=by omega
       have hrow0:∀j,j<c2->bX ys (i*c2+j)=cu:=fun j hj=>by rw[hya i j hir hj,if_neg (by omega)]
       have hfit:i*c2+c2<=N:=by rw[<-hNN,<-Nat.succ_mul];exact Nat.mul_le_mul_right _ hir
       have hfit2:i*t.cols+t.cols<=n:=by rw[<-hnn,<-Nat.succ_mul];exact Nat.mul_le_mul_right _ hit
       have m1:(i:Int)*(c2:Int)=((i*c2:Nat):Int):=by push_cast;rfl
       have m2:((i:Int)+1)*(c2:Int)=((i*c2+c2:Nat):Int):=by push_cast;rw[Int.add_mul,Int.one_mul]
       have m3:(i:Int)*(t.cols:Int)=((i*t.cols:Nat):Int):=by push_cast;rfl
       have hoth:∀a j,a<r2->j<c2->a≠i->¬(i*c2<=a*c2+j/\a*c2+j<i*c2+c2):=fun a j _ hj hne=>IE hj hne
       obtain⟨mc,hmc⟩:∃mc,mc=min c2 t.cols:=⟨_,rfl⟩
       have hyl:=kz.1;generalize hs0:i*c2=s0 at *;generalize ha0:i*t.cols=a0 at *;refine aa ?_;refine eR (σ:=Nat) (fun q=>[(11,.int .i64 (q:Nat))]) (fun q g'=>q<=mc/\iP g' g2 N (qC (fun j=>bX t.xs (a0+j)) ys s0 q)/\Ext (fun b=>b=g2\/h6.size<=b) h6 g') (fun q=>mc-q) (0) ⟨Nat.zero_le _,kz,xg⟩ rfl ?_;rintro q g3 ⟨hq,kq,xq⟩ ih2;have k3q:=k36.ext xq (by omega);have k5q:=k56.ext xq (by omega)
       iterate 2 refine aI ?_
       refine dM [(45,.bool (decide (q<mc)))] rfl ?_ ?_
       · refine aa ?_;refine dx 40 (fun g1=>?_) (fun g1=>?_)
         · have g1:=of_decide_eq_true g1;refine aa ?_;refine xp rfl (aA rfl (k3q.cell (i:=1) rfl)) ?_;refine aa ?_;exact aL rfl ⟨ak rfl (by rw[decide_eq_decide];omega),sb rfl⟩
         · have g1:=of_decide_eq_false g1;refine aa ?_;exact aL rfl ⟨ak rfl (by rw[decide_eq_false (by omega)]),sb rfl⟩
       · refine aQ (fun hlt2=>?_) (fun hlt2=>?_)
         · have kSq:=kS6.ext xq (by omega);have hsrc:=kSq.at (i:=a0+q) (by omega);obtain⟨L,kL,hL,hov⟩:=kq.open;refine aa ?_;refine ic 19 18 ?_;refine ax 0 ?_;refine aS 1 rfl (fun h' e=>aA rfl (e.old (k5q.cell (i:=2) rfl))) ?_;refine ax 2 ?_;refine ax 3 ?_;refine aS 4 rfl (fun h' e=>an.dK rfl rfl (by rw[m1];omega)) ?_;refine ax 5 ?_;refine aS 6 rfl (fun h' e=>an.dZ rfl rfl (by rw[m1];omega)) ?_;refine ax 7 ?_;refine aS 8 rfl (fun h' e=>aA rfl (e.old (k3q.cell (i:=2) rfl))) ?_;refine ax 9 ?_;refine ax 10 ?_;refine aS 11 rfl (fun h' e=>aA rfl (e.old (k3q.cell (i:=1) rfl))) ?_;refine aS 12 rfl (fun h' e=>an.dK rfl rfl (by rw[m3];omega)) ?_;refine ax 13 ?_;refine aS 14 rfl (fun h' e=>an.dZ rfl rfl (by rw[m3];omega)) ?_;refine aS 15 rfl (fun h' e=>bT rfl rfl (a0+q) (by rw[m3];push_cast;rfl) rfl) ?_;refine aS 16 rfl (fun h' e=>bI rfl (e.lK hsrc)) ?_;refine aS 17 rfl (fun h' e=>bT rfl rfl (s0+q) (by rw[m1];push_cast;rfl) rfl) ?_;refine eK 18 rfl (bM rfl rfl kL ((qT (bX t.xs (a0+q))))) ?_;rintro _ g4 ⟨rfl,k4,x4,z4⟩;refine⟨nofun,?_⟩;have k4:az g4 g2 58 (over L (0+(s0+q)*6) (cz (bX t.xs (a0+q)))):=k4;have k4:=hov (s0+q) _ (by omega) k4;refine dP ?_;refine aa ?_;exact ih2 (q+1) ⟨by omega,k4,xq.trans (x4.mono fun _ _ q=>.inl q)⟩
         · obtain rfl:q=mc:=by omega
           have hzat:∀j,j<c2->bX (qC (fun j=>bX t.xs (a0+j)) ys s0 q) (s0+j)=if j<t.cols then bX t.xs (a0+j) else cu:=fun j hj=>by
            rw[qM _ _ _ _ (by omega)]
            by_cases z:j<t.cols
            · rw[if_pos ⟨by omega,by omega⟩,if_pos z,Nat.add_sub_cancel_left]
            · rw[if_neg (by omega),if_neg z,hrow0 j hj]
           have hzo:∀j,¬(s0<=j/\j<s0+c2)->bX (qC (fun j=>bX t.xs (a0+j)) ys s0 q) j=bX ys j:=fun j hj=>by
            rw[qM _ _ _ _ (by omega),if_neg (by omega)]
           generalize qC (fun j=>bX t.xs (a0+j)) ys s0 q=zs at *;have hzl:=kq.1;rw[<-ha0] at hzat;have hmend:=GK ok.vf (zs:=zs) (s:=s0) (c2:=c2) (i:=i) (by omega) hit ok.len hzat
           have hp1:aP (some ⟨g2,0,none⟩) s0 6 cN=some ⟨g2,s0*6,none⟩:=by
            unfold aP;rw[if_neg (by omega),Option.map_some,Addr.add,Nat.zero_add];split
            · rename_i e;rw[e]
            · rfl
           refine aa ?_;refine xp rfl (aA rfl (k5q.cell (i:=2) rfl)) ?_
           iterate 2 refine aU ?_
           refine xp rfl (an.dK rfl rfl (by rw[m1];omega)) ?_
           iterate 3 refine aU ?_
           refine xp rfl (an.dK rfl rfl (by rw[m2];omega)) ?_;refine xp rfl (an.jN underlying39 H.lu rfl rfl s0 m1 rfl (s0+c2) m2 (by omega) (by omega)) ?_;rw[hp1,show s0+c2-s0=c2 by omega];refine xo rfl (aG rfl (pX kq (s:=s0) (m:=c2) (by omega) (by omega))) ?_;rintro _ g4 ⟨km,xm⟩;refine aa ?_
           exact ih (i+1) ⟨by omega,xq.trans (xm.mono fun b _ q=>by have:=xq.size;omega),_,km,fun a j ha hj=>by
            rw[hmend]
            by_cases z:a=i
            · subst z;rw[hs0,if_pos ⟨by omega,by omega⟩,if_pos (by omega),Nat.add_sub_cancel_left]
            · rw[if_neg (hoth a j ha hj z),hzo _ (hoth a j ha hj z),hya a j ha hj]
              by_cases z2:a<i
              · rw[if_pos z2,if_pos (by omega)]
              · rw[if_neg z2,if_neg (by omega)]⟩ (by omega)
     · obtain rfl:i=mr:=by omega
       have hfin:ys=nT t r2 c2:=DI (by rw[kz.1,hNN]) fun a j ha hj=>by
        rw[hya a j ha hj]
        by_cases q:a<i
        · rw[if_pos q]
        · rw[if_neg q,kX,if_neg (by omega)]
       subst hfin;have v1:(if (r2:Int)-1<(t.row:Int) then (r2:Int)-1 else (t.row:Int))=((min t.row (r2-1):Nat):Int):=by split<;>omega
       have v2:(if (c2:Int)-1<(t.col:Int) then (c2:Int)-1 else (t.col:Int))=((min t.col (c2-1):Nat):Int):=by split<;>omega
       refine aa ?_;refine ic 14 11 ?_;refine ax 0 ?_;refine aS 1 rfl (fun h' e=>aA rfl (e.old (k3g.cell (i:=3) rfl))) ?_;refine ax 2 ?_;refine ax 3 ?_;refine ax 4 ?_;refine ax 10 ?_;refine RD.bq 5 (listed':= #[true,true,true,true,true,true,false,false,false,false,true,false,false,false]) rfl (by kernel_rfl) (by kernel_rfl) (by kernel_rfl) rfl rfl rfl (fun _=>aM (off:=4) underlying41 rfl rfl H.fu rfl) rfl ?_;refine RD.bq 7 (listed':= #[true,true,true,true,true,true,false,true,false,false,true,false,false,false]) rfl (by kernel_rfl) (by kernel_rfl) (by kernel_rfl) rfl rfl rfl (fun _=>aD rfl) rfl ?_;refine RD.bq 8 (listed':= #[true,true,true,true,true,true,false,true,true,false,true,false,false,false]) rfl (by kernel_rfl) (by kernel_rfl) (by kernel_rfl) rfl rfl rfl (fun _=>an.pQ rfl rfl ⟨by omega,by omega⟩) rfl ?_;refine RD.Mf 6 11 (li:= #[true,true,true,true,true,true,true,true,true,false,true,false,false,false]) (lj:= #[true,true,true,true,true,true,false,true,true,false,true,true,false,false]) rfl rfl (by kernel_rfl) rfl rfl rfl rfl rfl (an.jF (bn H.BC rfl (k3g.cell (i:=4) rfl))) (aH.br H.fu rfl rfl k5g (by first|decide|exact of_decide_eq_true rfl|(simp;done)|(simp;omega)) rfl) rfl rfl ?_ ?_
       · rintro _ hq_ ⟨rfl,hqe_⟩;replace hqe_:=hqe_.symm;subst hqe_;refine⟨fun _=>av _ _,?_⟩;refine RD.bq 9 (listed':= #[true,true,true,true,true,true,true,true,true,true,true,false,false,false]) rfl (by kernel_rfl) (by kernel_rfl) (by kernel_rfl) rfl rfl rfl (fun _=>an.min2 rfl rfl) rfl ?_;refine eK 11 rfl (b7 rfl rfl k5g) ?_;rintro _ g4 ⟨rfl,kf4,y4,w4⟩;refine⟨nofun,?_⟩;refine ax 12 ?_;refine eK 13 rfl (b7 rfl rfl kf4) ?_;rintro _ g5 ⟨rfl,kf5,y5,w5⟩;refine⟨nofun,?_⟩;refine dP ?_;refine aa ?_;have kf5:az g5 h3.size 41 (cy r2 c2 (gI g2 N cN) (min t.row (r2-1):Nat) (min t.col (c2-1):Nat)):=by rw[v1,v2] at kf5;exact kf5
         have k65:=(k6g.ext y4 (by omega)).ext y5 (by omega);refine xp rfl (bI rfl kf5.row) ?_;refine aY rfl (bM rfl rfl k65 ((jw rfl))) ?_;rintro _ g6 ⟨rfl,k7,x7,w7⟩;refine aa ?_;have k7:az g6 h1.size 41 (cy r2 c2 (gI g2 N cN) (min t.row (r2-1):Nat) (min t.col (c2-1):Nat)):=k7;refine fG (fT rfl k7.row (kZ fF)) ?_;have E:ah h g1:=⟨Nat.le_trans e06.size xg.size,fun b hb _=>(xg.block b (by have:=e06.size;omega) (by have:=e06.size;omega)).trans (e06.block b hb (fun q=>q))⟩
         exact⟨_,rfl,⟨g2,cN,rfl,hcN,by omega,((kz.ext y4 (by omega)).ext y5 (by omega)).ext x7 (by omega)⟩,ah.only (ah.only (ah.only E y4 (by omega)) y5 (by omega)) x7 (by omega)⟩
       · rintro _ g4 ⟨rfl,kf4,y4,w4⟩;refine⟨nofun,?_⟩;have hM:¬Array.size g1<=h.size:=by have:=k3g.lt;omega
         refine aS 6 rfl (fun h' e=>aA rfl (e.cell hM ((k3g.ext y4 (by omega)).cell (i:=4) rfl))) ?_;refine ax 9 ?_;refine ax 12 ?_;refine eK 13 rfl (b7 rfl rfl kf4) ?_;rintro _ g5 ⟨rfl,kf5,y5,w5⟩;refine⟨nofun,?_⟩;refine dP ?_;refine aa ?_;have kf5:az g5 h3.size 41 (cy r2 c2 (gI g2 N cN) (min t.row (r2-1):Nat) (min t.col (c2-1):Nat)):=by rw[v1,v2] at kf5;exact kf5
         have k65:=(k6g.ext y4 (by omega)).ext y5 (by omega);refine xp rfl (bI rfl kf5.row) ?_;refine aY rfl (bM rfl rfl k65 ((jw rfl))) ?_;rintro _ g6 ⟨rfl,k7,x7,w7⟩;refine aa ?_;have k7:az g6 h1.size 41 (cy r2 c2 (gI g2 N cN) (min t.row (r2-1):Nat) (min t.col (c2-1):Nat)):=k7;refine fG (fT rfl k7.row (kZ fF)) ?_;have E:ah h g1:=⟨Nat.le_trans e06.size xg.size,fun b hb _=>(xg.block b (by have:=e06.size;omega) (by have:=e06.size;omega)).trans (e06.block b hb (fun q=>q))⟩
         exact⟨_,rfl,⟨g2,cN,rfl,hcN,by omega,((kz.ext y4 (by omega)).ext y5 (by omega)).ext x7 (by omega)⟩,ah.only (ah.only (ah.only E y4 (by omega)) y5 (by omega)) x7 (by omega)⟩
theorem yx {M:Nat->Prop}{h1 h2:ai}(x:Ext M h h1) (y:Ext (fun b=>M b\/h.size<=b) h1 h2):Ext M h h2 :=
 ⟨Nat.le_trans x.size y.size,fun b hb hm=>(y.block b (Nat.lt_of_lt_of_le hb x.size) (fun q=>q.elim hm (fun q=>by omega))).trans (x.block b hb hm)⟩
theorem j6 {M:Nat->Prop}{h1 h2:ai}(x:Ext M h h1) (y:ah h1 h2):Ext M h h2:=yx x (y.mono fun _ _ q=>q.elim)
def wu (rows cols:Nat) (v:Value) (row col:Int) (u:By) (sy:qY) (w:Bool) (bl:Int):List Value:=[.int .i64 (rows:Nat),.int .i64 (cols:Nat),v,.int .i64 row,.int .i64 col,.string (bs u),.int .i64 sy.1,.bool sy.2.1,.bool sy.2.2.1,.bool sy.2.2.2,.bool w,.int .i64 bl]
def oJ (h:ai) (tb:Nat) (t:TM) (u:By):Prop:=∃(g c:Nat) (bl:Int),az h tb 86 (wu t.rows t.cols (gI g t.xs.length c) t.row t.col u t.sy t.waits bl)/\iP h g t.xs.length t.xs/\tb≠g/\t.xs.length<=c
theorem oJ.af {h h':ai}{tb:Nat}{t:TM}{u:By}(k:oJ h tb t u) (x:ah h h'):oJ h' tb t u:=let ⟨g,c,bl,k1,k2,k3,k4⟩:=k;⟨g,c,bl,k1.af x,k2.af x,k3,k4⟩
theorem Bd {bl:Int}{sy:qY}{w:Bool}(k:az h tb 86 (wu rows cols v row col u sy w bl)):Lw.rowAt h tb 0 (cy rows cols v row col):=fun j x hx=>by
 match j,hx with
 | 0,hx=>cases hx;exact k.cell (i:=0) rfl
 | 1,hx=>cases hx;exact k.cell (i:=1) rfl
 | 2,hx=>cases hx;exact k.cell (i:=2) rfl
 | 3,hx=>cases hx;exact k.cell (i:=3) rfl
 | 4,hx=>cases hx;exact k.cell (i:=4) rfl
theorem Ko {bl:Int}{sy:qY}{w:Bool}(k:az h tb 86 (wu rows cols v row col u sy w bl)):Lw.rowAt h tb (0+6) (jL sy):=fun j x hx=>by
 match j,hx with
 | 0,hx=>cases hx;exact k.cell (i:=6) rfl
 | 1,hx=>cases hx;exact k.cell (i:=7) rfl
 | 2,hx=>cases hx;exact k.cell (i:=8) rfl
 | 3,hx=>cases hx;exact k.cell (i:=9) rfl
theorem CJ (xs:List cY) (hn:xs.length=n) (hc:cols<=n):qC (fun k=>bX xs (cols+k)) (List.replicate n cu) 0 (n-cols)=xs.drop cols++List.replicate cols cu:=by
 have hl:(xs.drop cols++List.replicate cols cu).length=n:=by rw[List.length_append,List.length_drop,List.length_replicate];omega
 refine oD (by rw[rJ,List.length_replicate,hl]) fun j hj=>?_
 rw[rJ,List.length_replicate] at hj;rw[qM _ _ _ _ (by rw[List.length_replicate];omega)]
 by_cases q:j<n-cols
 · rw[if_pos ⟨by omega,by omega⟩,bX,bX,List.getD_eq_getElem?_getD,List.getD_eq_getElem?_getD,List.getElem?_append_left (by rw[List.length_drop];omega),List.getElem?_drop,Nat.sub_zero]
 · rw[if_neg (by omega),qU,bX,List.getD_eq_getElem?_getD,List.getElem?_append_right (by rw[List.length_drop];omega),List.getElem?_replicate];split<;>rfl
section
variable {h h':ai}{tb:Nat}{t:TM}{u:By}
theorem nR (ok:dw t) (k:oJ h tb t u):aj Tryz.prog 61 #[.pointer (some ⟨tb,0,none⟩)] h (aN fun _ h'=>oJ h' tb (dX t) u/\Ext (fun b=>b=tb) h h'):=by
 obtain⟨g,c,bl,kb,ks,hne,hcap⟩:=k;have t1:=ok.rows;have t2:=ok.cols;have t3:=ok.row;have hlen:=ok.len;have htl:=kb.lt;have hgl:=ks.lt;obtain⟨s1,s2,s3⟩:=ok.small (n:=t.xs.length) rfl;unfold dX;refine bf ?_
 iterate 2 refine aI ?_
 refine uo (fun b=>Array.size h<=b) (fun i=>Nat.blt i 12) (sz:=12) (listed:= #[false,false,false,false,false,false,false,false,false,false,false,false]) func61 H.mixed rfl rfl rfl ?_;refine ax 0 ?_;refine ax 1 ?_;refine ax 2 ?_;refine ax 3 ?_;refine aS 4 rfl (fun h' e=>aA rfl (e.old (kb.cell (i:=3) rfl))) ?_;refine ax 5 ?_;refine ax 6 ?_;refine ax 7 ?_;refine ax 8 ?_;refine ax 9 ?_;refine aS 10 rfl (fun h' e=>aA rfl (e.old (kb.cell (i:=0) rfl))) ?_;refine ax 11 ?_;refine dP ?_;refine aQ (fun q1=>?_) (fun q1=>?_)
 · rw[if_pos (by omega)];refine aa ?_;refine xp rfl (aA rfl (kb.cell (i:=3) rfl)) ?_;refine aa ?_;refine aY rfl (b7 rfl rfl kb) ?_;rintro _ g3 ⟨rfl,k3,x3,z3⟩;refine aa ?_;have k3:az g3 tb 86 (wu t.rows t.cols (gI g t.xs.length c) ((t.row+1:Nat):Int) t.col u t.sy t.waits bl):=k3;refine aW ?_;exact⟨_,rfl,⟨g,c,bl,k3,ks.ext x3 (fun q=>hne q.symm),hne,hcap⟩,x3⟩
 · rw[if_neg (by omega)];have hnw:=fun h=>lH (h:=h) t1 t2
   rw[<-hlen] at hnw;generalize hn:t.xs.length=n at *;have hM:¬Array.size h<=tb:=by omega
   iterate 2 refine aI ?_
   refine Ej 17 (fun b=>Array.size h<=b) (fun i=>Nat.blt i 15) (fun(w:Nat×Nat×Nat) (h':ai)=>az h' w.1 41 (cy t.rows t.cols (gI w.2.1 n w.2.2) 0 0)/\n<=w.2.2/\iP h' w.2.1 n (List.replicate n cu)/\h.size<=w.1/\h.size<=w.2.1/\w.1≠w.2.1/\ah h h') (fun(w:Nat×Nat×Nat)=>[(2,.pointer (some ⟨w.1,0,none⟩))]) rfl ?_ ?_
   · refine ax 0 ?_;refine ax 1 ?_;refine ax 2 ?_;refine ax 3 ?_;refine aS 4 rfl (fun h' e=>aA rfl (e.cell hM (kb.cell (i:=0) rfl))) ?_;refine ax 5 ?_;refine ax 6 ?_;refine ax 7 ?_;refine ax 8 ?_;refine aS 9 rfl (fun h' e=>aA rfl (e.cell hM (kb.cell (i:=1) rfl))) ?_;refine LB 10 14 rfl rfl (aG rfl (hnw _)) (cC) ?_ ?_
     · rintro _ g2 ⟨⟨b,c',rfl,hc',hb,kN⟩,e2⟩;refine⟨fun _=>e2.of,?_⟩;have hbl:=kN.lt;have hz2:=e2.size;refine ax 11 ?_;refine ax 12 ?_;refine RD.bq 13 (listed':= #[true,true,true,true,true,true,true,true,true,true,true,true,true,true,false,false,false]) rfl (by kernel_rfl) (by kernel_rfl) (by kernel_rfl) rfl rfl rfl (fun _=>an.extract rfl rfl) rfl ?_;refine ct 14 rfl (cC) ?_;rintro _ g3 ⟨rfl,kn,e3,z3⟩;refine⟨fun _=>e3.of,?_⟩;refine eK 15 rfl (bM rfl rfl kn ((jw rfl))) ?_;rintro _ g4 ⟨rfl,k4,x4,z4⟩;refine⟨nofun,?_⟩;refine ax 16 ?_;exact qz (g2.size,b,c') ⟨k4,hc',(kN.af e3).ext x4 (by omega),hz2,hb,by show g2.size≠b;omega,ah.only (e2.trans e3) x4 hz2⟩
     · rintro _ g2 ⟨rfl,kn,e2,z2⟩;refine⟨fun _=>e2.of,?_⟩;have hz2:=e2.size;refine ct 10 rfl (aG rfl (hnw _)) ?_;rintro _ g3 ⟨⟨b,c',rfl,hc',hb,kN⟩,e3⟩;refine⟨fun _=>e3.of,?_⟩;refine ax 11 ?_;refine ax 12 ?_;refine RD.bq 13 (listed':= #[true,true,true,true,true,true,true,true,true,true,true,true,true,true,true,false,false]) rfl (by kernel_rfl) (by kernel_rfl) (by kernel_rfl) rfl rfl rfl (fun _=>an.extract rfl rfl) rfl ?_;refine eK 15 rfl (bM rfl rfl ((kn.af e3)) ((jw rfl))) ?_;rintro _ g4 ⟨rfl,k4,x4,z4⟩;refine⟨nofun,?_⟩;refine ax 16 ?_;have hbl:=kn.lt;exact qz (h.size,b,c') ⟨k4,hc',kN.ext x4 (by omega),Nat.le_refl _,by show h.size<=b;omega,by show h.size≠b;omega,ah.only (e2.trans e3) x4 (Nat.le_refl _)⟩
   · rintro⟨fb,g2,c2⟩ h1 ⟨kf,hc2,kN,hfb,hg2,hfg,e1⟩;have kf:az h1 fb 41 (cy t.rows t.cols (gI g2 n c2) 0 0):=kf;have kN:iP h1 g2 n (List.replicate n cu):=kN;have hc2:n<=c2:=hc2;have hfb:h.size<=fb:=hfb;have hg2:h.size<=g2:=hg2;have hfg:fb≠g2:=hfg;have kb1:=kb.af e1;have ks1:=ks.af e1;refine aa ?_;refine xp rfl (aA rfl (kb1.cell (i:=1) rfl)) ?_;refine aa ?_;refine eR (σ:=Nat) (fun j=>[(4,.int .i64 ((t.cols+j:Nat):Int))]) (fun j g'=>j<=n-t.cols/\iP g' g2 n (qC (fun k=>bX t.xs (t.cols+k)) (List.replicate n cu) 0 j)/\Ext (fun b=>b=g2) h1 g') (fun j=>n-j) (0) ⟨Nat.zero_le _,kN,av _ _⟩ rfl ?_;rintro j g3 ⟨hj,kz,x3⟩ ih;have kb3:=kb1.ext x3 (by omega);have kf3:=kf.ext x3 (by omega);have ks3:=ks1.ext x3 (by omega);refine aa ?_;refine xp rfl (aA rfl (kb3.cell (i:=2) rfl)) ?_;refine aa ?_;refine aQ (fun q3=>?_) (fun q3=>?_)
     · have hjn:t.cols+j<n:=by omega
       have hsrc:=ks3.at (i:=t.cols+j) hjn;obtain⟨L,kL,hL,hov⟩:=kz.open;refine aa ?_;refine ic 19 18 ?_;refine ax 0 ?_;refine aS 1 rfl (fun h' e=>aA rfl (e.old (kf3.cell (i:=2) rfl))) ?_;refine ax 2 ?_;refine ax 3 ?_;refine ax 4 ?_;refine ax 5 ?_;refine ax 6 ?_;refine aS 7 rfl (fun h' e=>aA rfl (e.old (kb3.cell (i:=1) rfl))) ?_;refine ax 8 ?_;refine ax 9 ?_;refine ax 10 ?_;refine ax 11 ?_;refine ax 12 ?_;refine aS 13 rfl (fun h' e=>aA rfl (e.old (kb3.cell (i:=2) rfl))) ?_;refine ax 14 ?_;refine aS 15 rfl (fun h' e=>bT rfl rfl (t.cols+j) rfl rfl) ?_;refine aS 16 rfl (fun h' e=>bI rfl (e.lK hsrc)) ?_;refine aS 17 rfl (fun h' e=>bT rfl rfl j (by omega) rfl) ?_;refine eK 18 rfl (bM rfl rfl kL ((qT (bX t.xs (t.cols+j))))) ?_;rintro _ g4 ⟨rfl,k4,x4,z4⟩;refine⟨nofun,?_⟩;have k4:az g4 g2 58 (over L (0+j*6) (cz (bX t.xs (t.cols+j)))):=k4;have k4:=hov j _ (by omega) k4;refine dP ?_;refine aa ?_;exact ih (j+1) ⟨by omega,by rw[qC,Nat.zero_add];exact k4,x3.trans x4⟩
     · obtain rfl:j=n-t.cols:=by omega
       rw[CJ t.xs hn (by omega)] at kz;refine aa ?_;refine xp rfl (aA rfl (kf3.cell (i:=2) rfl)) ?_;refine aa ?_;refine aY rfl (b7 rfl rfl kb3) ?_;rintro _ g5 ⟨rfl,k5,x5,z5⟩;refine aa ?_;have k5:az g5 tb 86 (wu t.rows t.cols (gI g2 n c2) t.row t.col u t.sy t.waits bl):=k5;have hl:(t.xs.drop t.cols++List.replicate t.cols cu).length=n:=by rw[List.length_append,List.length_drop,List.length_replicate];omega
       refine gE ?_;exact⟨_,rfl,⟨g2,c2,bl,by rw[hl];exact k5,by rw[hl];exact kz.ext x5 (by omega),by omega,by rw[hl];exact hc2⟩,yx (yx (j6 (av _ _:Ext (fun b=>b=tb) h h) e1) (x3.mono fun _ _ q=>.inr (by omega))) (x5.mono fun _ _ q=>.inl q)⟩
theorem wrap_small (x:Nat) (h:x<100):IntKind.i64.wrap (x:Int)=x:=wrap_i64 ⟨by omega,by omega⟩
theorem Dy:(jL pP).toArray= #[.int .i64 0,.bool false,.bool false,.bool false]:=rfl
theorem J2:cU 32=1:=by decide
theorem Gs (xs:List cY) (a:Nat):Ar xs a 32 pP=(fP xs a 1).set a cu:=rfl
theorem fZ (ok:dw t) (k:oJ h tb t u){a b:Nat}(hb:b<=t.xs.length):aj Tryz.prog 101 #[.pointer (some ⟨tb,0,none⟩),.int .i64 (a:Nat),.int .i64 (b:Nat)] h (aN fun _ h'=>oJ h' tb { t with xs:=fP t.xs a (b-a) } u/\Ext (fun b=>b=tb) h h'):=by
 obtain⟨g,c,bl,kb,ks,hne,hcap⟩:=k;have t1:=ok.rows;have t2:=ok.cols;have t3:=ok.row;have t4:=ok.col;have hlen:=ok.len;have htl:=kb.lt;have hgl:=ks.lt;obtain⟨s1,s2,s3⟩:=ok.small (n:=t.xs.length) rfl;refine bf ?_;refine aa ?_;refine aQ (fun q1=>?_) (fun q1=>?_)
 · rw[show b-a=0 by omega];refine aW ?_;exact⟨_,rfl,⟨g,c,bl,kb,ks,hne,hcap⟩,av _ _⟩
 · have hab:a<b:=by omega
   have hp:=fun x (hx:x<t.xs.length)=>Ch (r2:=t.rows) (c2:=t.cols) (p:=x) (by rw[<-hlen];exact hx)
   obtain⟨a1,-,a2,a3⟩:=hp a (by omega);obtain⟨b1,-,b2,b3⟩:=hp (b-1) (by omega);have hM:¬Array.size h<=tb:=by omega
   have hr0:(0:Int)<=(t.row:Int)/\(t.row:Int)<(t.rows:Int):=⟨by omega,by omega⟩
   have hc0:(0:Int)<=(t.col:Int)/\(t.col:Int)<(t.cols:Int):=⟨by omega,by omega⟩
   have hput:=fun h (k:iP h g t.xs.length t.xs)=>lE (h:=h) (c:=c) (row:=t.row) (col:=t.col) (i:=a / t.cols) (j:=a%t.cols) (r:=32) (s:=pP) t1 t2 hlen.symm k ok.vf hr0 hc0 hcap a1 (.inl J2) (by show a%t.cols+1<=_;omega) ⟨by decide,by decide⟩
   rw[a3,Gs,vR ok.vf hlen (by omega),Dy] at hput;have ok1:dw { t with xs:=fP t.xs a 1 }:=ok.erase (by omega);have hl1:=cw t.xs a 1;have hput2:=fun h g c (hcap:t.xs.length<=c) (k:iP h g t.xs.length (fP t.xs a 1))=>lE (h:=h) (c:=c) (row:=t.row) (col:=t.col) (i:=(b-1) / t.cols) (j:=(b-1)%t.cols) (r:=32) (s:=pP) t1 t2 hlen.symm k ok1.vf hr0 hc0 hcap b1 (.inl J2) (by show (b-1)%t.cols+1<=_;omega) ⟨by decide,by decide⟩
   rw[b3,Gs,vR ok1.vf (hl1.trans hlen) (by rw[hl1];omega),Dy] at hput2;have hdoc:=E8 ok.vf hlen hab hb;have hl2:=cw (fP t.xs a 1) (b-1) 1;generalize fP (fP t.xs a 1) (b-1) 1=X2 at *;generalize fP t.xs a 1=X1 at *;generalize hn:t.xs.length=n at *;refine aa ?_;refine ic 24 23 ?_;refine ax 0 ?_;refine ax 1 ?_;refine ax 2 ?_;refine ax 3 ?_;refine aS 4 rfl (fun h' e=>bI rfl (e.rowAt hM (Bd kb))) ?_;refine ax 5 ?_;refine ax 6 ?_;refine ax 7 ?_;refine ax 8 ?_;refine ax 9 ?_;refine aS 10 rfl (fun h' e=>aA rfl (e.cell hM (kb.cell (i:=1) rfl))) ?_;refine aS 11 rfl (fun h' e=>dh rfl rfl (by omega)) ?_;refine ax 12 ?_;refine ax 13 ?_;refine ax 14 ?_;refine ax 15 ?_;refine ax 16 ?_;refine aS 17 rfl (fun h' e=>aA rfl (e.cell hM (kb.cell (i:=1) rfl))) ?_;refine aS 18 rfl (fun h' e=>cI rfl rfl (by omega)) ?_;rw[JJ,FV,wrap_small _ (Nat.lt_of_lt_of_le a1 t1.2)];refine aS 19 rfl (fun h' e=>au (H.qu ) rfl) ?_;refine ct 20 rfl (aG rfl (hput _ ks)) ?_;rintro _ h1 ⟨⟨g1,c1,rfl,hc1,hg1,k1⟩,e1⟩;refine⟨fun _=>e1.of,?_⟩;refine RD.bq 21 (listed':= #[true,true,true,true,true,true,true,true,true,true,true,true,true,true,true,true,true,true,true,true,true,true,false,false]) rfl (by kernel_rfl) (by kernel_rfl) (by kernel_rfl) rfl rfl rfl (fun _=>bh rfl) rfl ?_;refine ax 22 ?_;refine eK 23 rfl (bM rfl rfl ((kb.af e1)) ((jw rfl))) ?_;rintro _ h2 ⟨rfl,k2,x2,z2⟩;refine⟨nofun,?_⟩;have k2:az h2 tb 86 (wu t.rows t.cols (gI g1 n c1) t.row t.col u t.sy t.waits bl):=k2;have k12:=k1.ext x2 (by omega);have z1:=e1.size;have hM2:¬Array.size h2<=tb:=by omega
   refine dP ?_;refine aa ?_;refine ic 26 25 ?_;refine ax 0 ?_;refine ax 1 ?_;refine ax 2 ?_;refine ax 3 ?_;refine aS 4 rfl (fun h' e=>bI rfl (e.rowAt hM2 (Bd k2))) ?_;refine ax 5 ?_;refine ax 6 ?_;refine ax 7 ?_;refine ax 8 ?_;refine ax 9 ?_;refine ax 10 ?_;refine aS 11 rfl (fun h' e=>aA rfl (e.cell hM2 (k2.cell (i:=1) rfl))) ?_;refine aS 12 rfl (fun h' e=>dh rfl rfl (by omega)) ?_;refine ax 13 ?_;refine ax 14 ?_;refine ax 15 ?_;refine ax 16 ?_;refine ax 17 ?_;refine ax 18 ?_;refine aS 19 rfl (fun h' e=>aA rfl (e.cell hM2 (k2.cell (i:=1) rfl))) ?_;refine aS 20 rfl (fun h' e=>cI rfl rfl (by omega)) ?_;rw[show (b:Int)-1=((b-1:Nat):Int) by omega,JJ,FV,wrap_small _ (Nat.lt_of_lt_of_le b1 t1.2)];refine aS 21 rfl (fun h' e=>au (H.qu ) rfl) ?_;refine ct 22 rfl (aG rfl (hput2 _ _ _ hc1 k12)) ?_;rintro _ h3 ⟨⟨g3,c3,rfl,hc3,hg3,k3⟩,e3⟩;refine⟨fun _=>e3.of,?_⟩;refine RD.bq 23 (listed':= #[true,true,true,true,true,true,true,true,true,true,true,true,true,true,true,true,true,true,true,true,true,true,true,true,false,false]) rfl (by kernel_rfl) (by kernel_rfl) (by kernel_rfl) rfl rfl rfl (fun _=>bh rfl) rfl ?_;refine ax 24 ?_;refine eK 25 rfl (bM rfl rfl ((k2.af e3)) ((jw rfl))) ?_;rintro _ h4 ⟨rfl,k4,x4,z4⟩;refine⟨nofun,?_⟩;have k4:az h4 tb 86 (wu t.rows t.cols (gI g3 n c3) t.row t.col u t.sy t.waits bl):=k4;have k34:=k3.ext x4 (by omega);have x04:Ext (fun b=>b=tb) h h4:=(j6 ((j6 (av _ _:Ext (fun b=>b=tb) h h) e1).trans x2) e3).trans x4;have z04:=x04.size;refine dP ?_;refine aa ?_;refine eR (σ:=Nat) (fun q=>[(6,.int .i64 ((a+q:Nat):Int))]) (fun q g'=>q<=b-a/\iP g' g3 n (FJ X2 a q)/\Ext (fun b=>b=g3\/h4.size<=b) h4 g') (fun q=>b-q) (0) ⟨Nat.zero_le _,k34,av _ _⟩ rfl ?_;rintro q f1 ⟨hq,kz,xf⟩ ih;have kbf:=k4.ext xf (by omega);refine aa ?_;refine aQ (fun hlt=>?_) (fun hlt=>?_)
   · have hbk:=fun h=>iw (h:=h)
     have hMf:¬Array.size f1<=tb:=by have:=kbf.lt;omega
     obtain⟨L,kL,hL,hov⟩:=kz.open;refine aa ?_;refine ic 9 8 ?_;refine ax 0 ?_;refine ax 1 ?_;refine ax 2 ?_;refine ax 3 ?_;refine aS 4 rfl (fun h' e=>aA rfl (e.cell hMf (kbf.cell (i:=2) rfl))) ?_;refine ax 5 ?_;refine ct 6 rfl (aG rfl (hbk _)) ?_;rintro _ f2 ⟨rfl,y2⟩;refine⟨fun _=>y2.of,?_⟩;refine aS 7 rfl (fun h' e=>bT rfl rfl (a+q) rfl rfl) ?_;refine eK 8 rfl (bM rfl rfl ((kL.af y2)) ((qT cu))) ?_;rintro _ f3 ⟨rfl,kk3,y3,w3⟩;refine⟨nofun,?_⟩;have kk3:az f3 g3 58 (over L (0+(a+q)*6) (cz cu)):=kk3;have kk3:=hov (a+q) _ (by omega) kk3;refine dP ?_;refine aa ?_;exact ih (q+1) ⟨by omega,kk3,(xf.trans (y2.mono fun _ _ q=>q.elim)).trans (y3.mono fun _ _ q=>.inl q)⟩
   · obtain rfl:q=b-a:=by omega
     rw[hdoc] at kz;have hl:(fP t.xs a (b-a)).length=n:=by rw[cw,hn]
     refine aa ?_;refine gE ?_;exact⟨_,rfl,⟨g3,c3,bl,by rw[hl];exact kbf,by rw[hl];exact kz,by omega,by rw[hl];exact hc3⟩,yx x04 (xf.mono fun b _ q=>.inr (by omega))⟩
end
section
variable {h h':ai}{tb:Nat}{t:TM}{u:By}
theorem Ek (t:TM):dX { t with col:=0 } = { dX { t with col:=0,waits:=false } with waits:=t.waits }:=by unfold dX;split<;>rfl
theorem Is {w:Int}(h:¬(t.waits=true\/w=2/\t.col+1=t.cols)):t= { wrapM t w with waits:=t.waits }:=by unfold wrapM;rw[if_neg h]
theorem xC (ok:dw t) (k:oJ h tb t u) (hr:cU r=1\/cU r=2) :
 aj Tryz.prog 59 #[.pointer (some ⟨tb,0,none⟩),.int .i32 r] h (aN fun _ h'=>oJ h' tb (nO t r) u/\Ext (fun b=>b=tb) h h'):=by
 obtain⟨m,hrm,hrl⟩:=xR (r:=r) (w:=cU r) rfl (by omega);have hof:=fun h=>jQ (h:=h) m hrl
 rw[<-hrm] at hof;have h8:=ok.cols;have hcol:=ok.col;refine bf ?_;refine aa ?_;refine xo rfl (aG rfl (hof _)) ?_;rintro _ h1 ⟨rfl,e1⟩;refine aU ?_;refine bJ ?_
 iterate 2 refine aI ?_
 have k1:=k.af e1;obtain⟨g,c,bl,kb1,ks1,hne,hcap⟩:=id k1;have hcond:(decide (t.waits=true\/cU r=2/\t.col+1=t.cols))=(t.waits ||decide (cU r=2/\t.col+1=t.cols)):=by cases t.waits<;>simp
 refine G.eB [(28,.bool (decide (t.waits=true\/cU r=2/\t.col+1=t.cols)))] [(0,_),(1,_),(4,_)] ⟨rfl,rfl,rfl,trivial⟩ func59 H.mixed rfl (by kernel_rfl) ?_ ?_
 · iterate 3 refine mU ?_
   refine bP rfl (aA rfl (kb1.cell (i:=10) rfl)) ?_;refine aa ?_;refine Ic 11 (fun g1=>?_) (fun g1=>?_)
   · refine aa ?_;exact jq rfl ⟨ak rfl (by rw[hcond,g1];rfl),sb rfl⟩
   · refine aa ?_;refine Ic 14 (fun g2=>?_) (fun g2=>?_)
     · have g2:=of_decide_eq_true g2;refine aa ?_;refine bP rfl (aA rfl (kb1.cell (i:=4) rfl)) ?_;refine aa ?_;refine bP rfl (aA rfl (kb1.cell (i:=1) rfl)) ?_;refine aa ?_;exact jq rfl ⟨ak rfl (by rw[hcond,g1,Bool.false_or,decide_eq_decide];omega),sb rfl⟩
     · have g2:=of_decide_eq_false g2;refine aa ?_;exact jq rfl ⟨ak rfl (by rw[hcond,g1,Bool.false_or,decide_eq_false (fun q=>g2 q.1)]),sb rfl⟩
 · obtain⟨okw,w1,w2,w3,w4,w5⟩:=ok.wrap (cU r)
   have fin:∀  (h':ai) (ρ':Env),Sub [(0,.pointer (some ⟨tb,0,none⟩)),(1,.int .i32 r),(4,.int .i64 (cU r))] ρ'->oJ h' tb { wrapM t (cU r) with waits:=t.waits } u->Ext (fun b=>b=tb) h1 h'->G Tryz.prog 59 f59 [.code [1,1]] ρ' h' (aN fun _ h'=>oJ h' tb (nO t r) u/\Ext (fun b=>b=tb) h h'):=by
    rintro h2 ρ' hsub k2 x2;refine G.sub (ρ':=[(0,.pointer (some ⟨tb,0,none⟩)),(1,.int .i32 r),(4,.int .i64 (cU r))]) hsub ?_;generalize hw0:wrapM t (cU r)=t1 at *;have hshow:nO t r=if t1.col+(cU r).toNat<t1.cols then { t1 with xs:=Ar t1.xs (t1.row*t1.cols+t1.col) r t1.sy,col:=t1.col+(cU r).toNat } else { t1 with xs:=Ar t1.xs (t1.row*t1.cols+t1.col) r t1.sy,col:=t1.cols-1,waits:=true }:=by rw[<-hw0];rfl
    rw[hshow];obtain⟨g2,c2,bl2,kb2,ks2,hne2,hcap2⟩:=k2;dsimp only at kb2 ks2 hcap2;obtain⟨n,hn2,hn12⟩:∃n:Nat,cU r=n/\(n=1\/n=2):=by rcases hr with q|q;exact⟨1,q,.inl rfl⟩;exact⟨2,q,.inr rfl⟩
    have hfit:t1.col+(cU r).toNat<=t1.cols:=by
     have q1:=okw.col
     rcases hr with q|q
     · rw[q];show t1.col+1<=_;omega
     · have q4:=w4 q;rw[q];show t1.col+2<=_;omega
    have hr1:=okw.row;have hc1:=okw.col;have hput:=fun h (k:iP h g2 t1.xs.length t1.xs)=>lE (h:=h) (c:=c2) (row:=t1.row) (col:=t1.col) (i:=t1.row) (j:=t1.col) (r:=r) (s:=t1.sy) okw.rows okw.cols okw.len.symm k okw.vf ⟨by omega,by omega⟩ ⟨by omega,by omega⟩ hcap2 hr1 hr hfit okw.fg
    have hxl:=Gu t1.xs (t1.row*t1.cols+t1.col) r t1.sy;generalize Ar t1.xs (t1.row*t1.cols+t1.col) r t1.sy=px at *;have hM:¬Array.size h2<=tb:=by have:=kb2.lt;omega
    have c8:=okw.cols;refine aa ?_;refine ic 24 23 ?_;refine ax 0 ?_;refine ax 1 ?_;refine ax 2 ?_;refine ax 3 ?_;refine aS 4 rfl (fun h' e=>bI rfl (e.rowAt hM (Bd kb2))) ?_;refine ax 5 ?_;refine ax 6 ?_;refine ax 7 ?_;refine ax 8 ?_;refine aS 9 rfl (fun h' e=>aA rfl (e.cell hM (kb2.cell (i:=3) rfl))) ?_;refine ax 10 ?_;refine ax 11 ?_;refine ax 12 ?_;refine ax 13 ?_;refine aS 14 rfl (fun h' e=>aA rfl (e.cell hM (kb2.cell (i:=4) rfl))) ?_;refine ax 15 ?_;refine ax 16 ?_;refine ax 17 ?_;refine ax 18 ?_;refine aS 19 rfl (fun h' e=>bI rfl (e.rowAt hM (Ko kb2))) ?_;refine ct 20 rfl (aG rfl (hput _ ks2)) ?_;rintro _ h3 ⟨⟨g3,c3,rfl,hc3,hg3,k3⟩,e3⟩;refine⟨fun _=>e3.of,?_⟩;refine RD.bq 21 (listed':= #[true,true,true,true,true,true,true,true,true,true,true,true,true,true,true,true,true,true,true,true,true,true,false,false]) rfl (by kernel_rfl) (by kernel_rfl) (by kernel_rfl) rfl rfl rfl (fun _=>bh rfl) rfl ?_;refine ax 22 ?_;refine eK 23 rfl (bM rfl rfl ((kb2.af e3)) ((jw rfl))) ?_;rintro _ h4 ⟨rfl,k4,x4,z4⟩;refine⟨nofun,?_⟩;have k4:az h4 tb 86 (wu t1.rows t1.cols (gI g3 t1.xs.length c3) t1.row t1.col u t1.sy t.waits bl2):=k4;have z3:=e3.size;have htl:=kb2.lt;have k34:=k3.ext x4 (by omega);rw[hn2] at *;refine dP ?_;refine aa ?_;refine ic 17 16 ?_;refine ax 0 ?_;refine ax 1 ?_;refine ax 2 ?_;refine ax 3 ?_;refine ax 4 ?_;refine aS 5 rfl (fun h' e=>aA rfl (e.old (k4.cell (i:=4) rfl))) ?_;refine ax 6 ?_;refine ax 7 ?_;refine ax 8 ?_;refine ax 9 ?_;refine ax 10 ?_;refine ax 11 ?_;refine aS 12 rfl (fun h' e=>aA rfl (e.old (k4.cell (i:=1) rfl))) ?_;refine ax 13 ?_;refine RD.bq 14 (listed':= #[true,true,true,true,true,true,true,true,true,true,true,true,true,true,true,false,false]) rfl (by kernel_rfl) (by kernel_rfl) (by kernel_rfl) rfl rfl rfl (fun _=>bh rfl) rfl ?_;refine ax 15 ?_;refine eK 16 rfl (b7 rfl rfl k4) ?_;rintro _ h5 ⟨rfl,k5,x5,z5⟩;refine⟨nofun,?_⟩;have k5:az h5 tb 86 (wu t1.rows t1.cols (gI g3 t1.xs.length c3) t1.row t1.col u t1.sy (decide ((t1.cols:Int)<=(t1.col:Int)+(n:Int))) bl2):=k5;refine dP ?_;refine ic 19 18 ?_;refine ax 0 ?_;refine ax 1 ?_;refine ax 2 ?_;refine ax 3 ?_;refine ax 4 ?_;refine aS 5 rfl (fun h' e=>aA rfl (e.old (k5.cell (i:=4) rfl))) ?_;refine ax 6 ?_;refine ax 7 ?_;refine ax 8 ?_;refine ax 9 ?_;refine ax 10 ?_;refine ax 11 ?_;refine aS 12 rfl (fun h' e=>aA rfl (e.old (k5.cell (i:=1) rfl))) ?_;refine ax 13 ?_;refine ax 14 ?_;refine RD.bq 15 (listed':= #[true,true,true,true,true,true,true,true,true,true,true,true,true,true,true,true,false,false,false]) rfl (by kernel_rfl) (by kernel_rfl) (by kernel_rfl) rfl rfl rfl (fun _=>bh rfl) rfl ?_;refine RD.bq 16 (listed':= #[true,true,true,true,true,true,true,true,true,true,true,true,true,true,true,true,true,false,false]) rfl (by kernel_rfl) (by kernel_rfl) (by kernel_rfl) rfl rfl rfl (fun _=>aM (off:=0) underlying86 rfl rfl H.iC rfl) rfl ?_;refine ax 17 ?_;refine eK 18 rfl (b7 rfl rfl k5) ?_;rintro _ h6 ⟨rfl,k6,x6,z6⟩;refine⟨nofun,?_⟩;have k6:az h6 tb 86 (wu t1.rows t1.cols (gI g3 t1.xs.length c3) t1.row (if (t1.cols:Int)-1<(t1.col:Int)+(n:Int) then (t1.cols:Int)-1 else (t1.col:Int)+(n:Int)) u t1.sy (decide ((t1.cols:Int)<=(t1.col:Int)+(n:Int))) bl2):=k6;have k36:=(k34.ext x5 (by omega)).ext x6 (by omega);have x06:Ext (fun b=>b=tb) h h6:=((((j6 ((e1.mono fun _ _ q=>q.elim).trans x2) e3).trans x4).trans x5).trans x6)
    refine dP ?_;refine gE ?_;refine⟨_,rfl,⟨g3,c3,bl2,?_⟩,x06⟩;rw[Int.toNat_natCast]
    by_cases q:t1.col+n<t1.cols
    · rw[if_pos q];rw[decide_eq_false (by omega),show (if (t1.cols:Int)-1<(t1.col:Int)+(n:Int) then (t1.cols:Int)-1 else (t1.col:Int)+(n:Int))=((t1.col+n:Nat):Int) by split<;>omega] at k6;dsimp only;rw[hxl,w5];exact⟨k6,k36,by omega,hc3⟩
    · rw[if_neg q];rw[decide_eq_true (by omega),show (if (t1.cols:Int)-1<(t1.col:Int)+(n:Int) then (t1.cols:Int)-1 else (t1.col:Int)+(n:Int))=((t1.cols-1:Nat):Int) by split<;>omega] at k6;dsimp only;rw[hxl];exact⟨k6,k36,by omega,hc3⟩
   refine aQ (fun q0=>?_) (fun q0=>?_)
   · rw[show wrapM t (cU r)=dX { t with col:=0,waits:=false } from if_pos q0] at *;rw[<-Ek] at fin;refine aa ?_;refine aY rfl (b7 rfl rfl kb1) ?_;rintro _ g2 ⟨rfl,k2,x2,z2⟩;refine aa ?_;have k2:az g2 tb 86 (wu t.rows t.cols (gI g t.xs.length c) t.row (0:Nat) u t.sy t.waits bl):=k2;have okz:dw { t with col:=0 }:=⟨ok.rows,ok.cols,ok.len,ok.row,by show 0<t.cols;omega,ok.fg,ok.vf⟩
     refine xo rfl (aG rfl (nR okz ⟨g,c,bl,k2,ks1.ext x2 (fun q=>hne q.symm),hne,hcap⟩)) ?_;rintro _ g4 ⟨k4,x4⟩;refine bJ ?_;exact fin _ _ (by exact sb rfl) k4 (x2.trans x4)
   · have hid:=Is q0;rw[<-hid] at fin;refine aI ?_;exact fin _ _ (by exact sb rfl) k1 (av _ _)
end
theorem mJ {p:Value}{l:List Int}{O:Nat->Prop}(hp:aR Bc h O p l):aj Tryz.prog 99 #[p,.int .i64 (i:Nat)] h (aN fun q h'=>q= .int .i64 (l.getD i 0)/\h'=h):=by
 obtain⟨va,vn,vc,rfl,hps⟩:=id hp.open;have hl:l.length=vn:=hps.len;subst hl;refine bf ?_;refine aa ?_;refine aQ (fun q=>?_) (fun q=>?_)
 · refine aa ?_;refine aW ?_;exact⟨_,rfl,by rw[List.getD_eq_getElem?_getD,List.getElem?_eq_none (by omega)];rfl,rfl⟩
 · obtain⟨b,o,x,ha,_,hx,hrow⟩:=hps.at (i:=i) (by omega);have hgt:l.getD i 0=x:=by rw[List.getD_eq_getElem?_getD,hx];rfl
   iterate 2 refine aI ?_
   refine bU ?_
   iterate 2 refine aU ?_
   refine xp rfl (bT rfl rfl i rfl ha) ?_;refine xp rfl (aA rfl hrow) ?_;refine aa ?_;refine aW ?_;exact⟨_,rfl,by rw[hgt];rfl,rfl⟩
theorem dN (n m:Int) (hm:1<=m/\m<=1000):aj Tryz.prog 100 #[.int .i64 n,.int .i64 m] h (aN fun r h'=>r= .int .i64 (fy n m:Nat)/\h'=h):=by
 unfold fy;refine bf ?_;refine aa ?_;refine aW ?_;exact⟨_,rfl,congrArg (Value.int .i64) (by split<;>split<;>omega),rfl⟩
theorem Ao (s:qY) (n:Int):aj Tryz.prog 102 #[.agg (jL s).toArray,.int .i64 n] h (aN fun r h'=>r= .agg (jL (eF s n)).toArray/\ah h h'):=by
 refine bf ?_;refine aa ?_;refine xo rfl (cM) ?_;rintro _ h1 ⟨rfl,k2,e1,z1⟩;refine xo rfl (cC) ?_;rintro _ h2 ⟨rfl,k4,e2,z2⟩;refine aa ?_;have k2:az h2 h.size 56 (jL s):=k2.af e2;have k4:az h2 h1.size 56 (jL pP):=k4;have e02:=e1.trans e2;have hz1:=e1.size
 have fin:∀(s':qY) (h':ai) (ρ':Env),Sub [(2,.pointer (some ⟨h.size,0,none⟩)),(4,.pointer (some ⟨h1.size,0,none⟩))] ρ'->eF s n=s'->az h' h.size 56 (jL s')->ah h h'->az h' h1.size 56 (jL pP)->G Tryz.prog 102 f102 [.code [1,1]] ρ' h' (aN fun r h'=>r= .agg (jL (eF s n)).toArray/\ah h h'):=by
  rintro s' g ρ' hsub hs' ks x kk;refine G.sub (ρ':=[(2,.pointer (some ⟨h.size,0,none⟩)),(4,.pointer (some ⟨h1.size,0,none⟩))]) hsub ?_;rw[hs'];refine aa ?_;refine xp rfl (bI rfl ks.row) ?_;refine aY rfl (bM rfl rfl kk ((PK s'))) ?_;rintro _ g5 ⟨rfl,k5,x5,z5⟩;refine aa ?_;have k5:az g5 h1.size 56 (jL s'):=k5;refine fG (fT rfl k5.row fF) ?_;exact⟨_,rfl,rfl,ah.only x x5 (by omega)⟩
 obtain⟨X,hX⟩:∃X,eF s n=X:=⟨_,rfl⟩
 rw[hX] at fin ⊢;unfold eF at hX;refine aQ (fun q0=>?_) (fun q0=>?_)
 · rw[if_pos q0] at hX;rw[<-hX];refine aa ?_;refine xp rfl (au (H.qu ) rfl) ?_;refine aY rfl (bM rfl rfl k4) ?_;rintro _ h3 ⟨rfl,k5,x5,z5⟩;refine aa ?_;have k5:az h3 h1.size 56 (jL pP):=k5;refine fG (fT rfl k5.row fF) ?_;exact⟨_,rfl,rfl,ah.only e02 x5 (by omega)⟩
 · rw[if_neg q0] at hX;refine aa ?_;refine aQ (fun q1=>?_) (fun q1=>?_)
   · rw[if_pos (.inl q1)] at hX;refine aa ?_;refine aY rfl (b7 rfl rfl k2) ?_;rintro _ g3 ⟨rfl,k3,x3,z3⟩;refine bJ ?_;refine aI ?_;have k3:az g3 h.size 56 (jL (s.1,true,s.2.2.1,s.2.2.2)):=k3;exact fin (s.1,true,s.2.2.1,s.2.2.2) _ _ (by exact sb rfl) (by rw[<-hX,decide_eq_true q1]) k3 (ah.only e02 x3 (Nat.le_refl _)) (k4.ext x3 (by omega))
   · refine aa ?_;refine aQ (fun q2=>?_) (fun q2=>?_)
     · rw[if_pos (.inr q2)] at hX;refine aa ?_;refine aY rfl (b7 rfl rfl k2) ?_;rintro _ g3 ⟨rfl,k3,x3,z3⟩;refine bJ ?_;refine aI ?_;have k3:az g3 h.size 56 (jL (s.1,false,s.2.2.1,s.2.2.2)):=k3;exact fin (s.1,false,s.2.2.1,s.2.2.2) _ _ (by exact sb rfl) (by rw[<-hX,decide_eq_false q1]) k3 (ah.only e02 x3 (Nat.le_refl _)) (k4.ext x3 (by omega))
     · rw[if_neg (fun q=>q.elim q1 q2)] at hX;refine aa ?_;refine aQ (fun q3=>?_) (fun q3=>?_)
       · rw[if_pos (.inl q3)] at hX;refine aa ?_;refine aY rfl (b7 rfl rfl k2) ?_;rintro _ g3 ⟨rfl,k3,x3,z3⟩;refine bJ ?_;refine aI ?_;have k3:az g3 h.size 56 (jL (s.1,s.2.1,true,s.2.2.2)):=k3;exact fin (s.1,s.2.1,true,s.2.2.2) _ _ (by exact sb rfl) (by rw[<-hX,decide_eq_true q3]) k3 (ah.only e02 x3 (Nat.le_refl _)) (k4.ext x3 (by omega))
       · refine aa ?_;refine aQ (fun q4=>?_) (fun q4=>?_)
         · rw[if_pos (.inr q4)] at hX;refine aa ?_;refine aY rfl (b7 rfl rfl k2) ?_;rintro _ g3 ⟨rfl,k3,x3,z3⟩;refine bJ ?_;refine aI ?_;have k3:az g3 h.size 56 (jL (s.1,s.2.1,false,s.2.2.2)):=k3;exact fin (s.1,s.2.1,false,s.2.2.2) _ _ (by exact sb rfl) (by rw[<-hX,decide_eq_false q3]) k3 (ah.only e02 x3 (Nat.le_refl _)) (k4.ext x3 (by omega))
         · rw[if_neg (fun q=>q.elim q3 q4)] at hX;refine aa ?_;refine aQ (fun q5=>?_) (fun q5=>?_)
           · rw[if_pos (.inl q5)] at hX;refine aa ?_;refine aY rfl (b7 rfl rfl k2) ?_;rintro _ g3 ⟨rfl,k3,x3,z3⟩;refine bJ ?_;refine aI ?_;have k3:az g3 h.size 56 (jL (s.1,s.2.1,s.2.2.1,true)):=k3;exact fin (s.1,s.2.1,s.2.2.1,true) _ _ (by exact sb rfl) (by rw[<-hX,decide_eq_true q5]) k3 (ah.only e02 x3 (Nat.le_refl _)) (k4.ext x3 (by omega))
           · refine aa ?_;refine aQ (fun q6=>?_) (fun q6=>?_)
             · rw[if_pos (.inr q6)] at hX;refine aa ?_;refine aY rfl (b7 rfl rfl k2) ?_;rintro _ g3 ⟨rfl,k3,x3,z3⟩;refine bJ ?_;refine aI ?_;have k3:az g3 h.size 56 (jL (s.1,s.2.1,s.2.2.1,false)):=k3;exact fin (s.1,s.2.1,s.2.2.1,false) _ _ (by exact sb rfl) (by rw[<-hX,decide_eq_false q5]) k3 (ah.only e02 x3 (Nat.le_refl _)) (k4.ext x3 (by omega))
             · rw[if_neg (fun q=>q.elim q5 q6)] at hX;refine aa ?_
               have j27:∀(b:Bool) (h':ai) (ρ':Env),Sub [(1,.int .i64 n),(2,.pointer (some ⟨h.size,0,none⟩)),(4,.pointer (some ⟨h1.size,0,none⟩)),(5,.int .i64 n),(27,.bool b)] ρ'->b=decide (30<=n/\n<=37)->h'=h2->G Tryz.prog 102 f102 [.code [1,1,1,1,1,1,1,1,1,1,1,1,1,1,1,0,1,0,1],.blk 0,.code [1,1]] ρ' h' (aN fun r h'=>r= .agg (jL X).toArray/\ah h h'):=by
                rintro b g ρ' hsub hb rfl;refine G.sub (ρ':=[(1,.int .i64 n),(2,.pointer (some ⟨h.size,0,none⟩)),(4,.pointer (some ⟨h1.size,0,none⟩)),(5,.int .i64 n),(27,.bool b)]) hsub ?_;refine oL (fun q7=>?_) (fun q7=>?_)
                · have q9:=of_decide_eq_true (hb.symm.trans q7);rw[if_pos q9] at hX;refine aa ?_;refine aY rfl (b7 rfl rfl k2) ?_;rintro _ g3 ⟨rfl,k3,x3,z3⟩;refine bJ ?_;refine aI ?_;have k3:az g3 h.size 56 (jL (n-29,s.2.1,s.2.2.1,s.2.2.2)):=k3;exact fin (n-29,s.2.1,s.2.2.1,s.2.2.2) _ _ (by exact sb rfl) hX.symm k3 (ah.only e02 x3 (Nat.le_refl _)) (k4.ext x3 (by omega))
                · rw[if_neg (of_decide_eq_false (hb.symm.trans q7))] at hX;refine aa ?_;refine aQ (fun q8=>?_) (fun q8=>?_)
                  · rw[if_pos q8] at hX;refine aa ?_;refine aY rfl (b7 rfl rfl k2) ?_;rintro _ g3 ⟨rfl,k3,x3,z3⟩;refine bJ ?_;refine aI ?_;have k3:az g3 h.size 56 (jL (0,s.2.1,s.2.2.1,s.2.2.2)):=k3;exact fin (0,s.2.1,s.2.2.1,s.2.2.2) _ _ (by exact sb rfl) (by rw[<-hX]) k3 (ah.only e02 x3 (Nat.le_refl _)) (k4.ext x3 (by omega))
                  · rw[if_neg q8] at hX
                    iterate 2 refine aI ?_
                    exact fin s _ _ (by exact sb rfl) hX.symm k2 e02 k4
               refine aQ (fun r30=>?_) (fun r30=>?_)
               · refine aI ?_;exact j27 (decide (n=30)) _ _ (by exact sb rfl) (by rw[decide_eq_decide];omega) rfl
               · refine aa ?_;refine aQ (fun r31=>?_) (fun r31=>?_)
                 · refine aI ?_;exact j27 (decide (n=31)) _ _ (by exact sb rfl) (by rw[decide_eq_decide];omega) rfl
                 · refine aa ?_;refine aQ (fun r32=>?_) (fun r32=>?_)
                   · refine aI ?_;exact j27 (decide (n=32)) _ _ (by exact sb rfl) (by rw[decide_eq_decide];omega) rfl
                   · refine aa ?_;refine aQ (fun r33=>?_) (fun r33=>?_)
                     · refine aI ?_;exact j27 (decide (n=33)) _ _ (by exact sb rfl) (by rw[decide_eq_decide];omega) rfl
                     · refine aa ?_;refine aQ (fun r34=>?_) (fun r34=>?_)
                       · refine aI ?_;exact j27 (decide (n=34)) _ _ (by exact sb rfl) (by rw[decide_eq_decide];omega) rfl
                       · refine aa ?_;refine aQ (fun r35=>?_) (fun r35=>?_)
                         · refine aI ?_;exact j27 (decide (n=35)) _ _ (by exact sb rfl) (by rw[decide_eq_decide];omega) rfl
                         · refine aa ?_;refine aQ (fun r36=>?_) (fun r36=>?_)
                           · refine aI ?_;exact j27 (decide (n=36)) _ _ (by exact sb rfl) (by rw[decide_eq_decide];omega) rfl
                           · refine bU ?_
                             iterate 2 refine aU ?_
                             refine bJ ?_;exact j27 (decide (n=37)) _ _ (by exact sb rfl) (by rw[decide_eq_decide];omega) rfl
theorem Ai (ok:dw t) (k:oJ h tb t u){l:List Int}(hv:aR Bc h (fun b=>b=tb) v l) (hl:l.length<=1000) (hr:∀x∈l,0<=x/\x<=9999) (f:Int) :
 aj Tryz.prog 62 #[.pointer (some ⟨tb,0,none⟩),v,.int .u8 f] h (aN fun _ h'=>oJ h' tb (kW t l f) u/\Ext (fun b=>b=tb) h h'):=by
 obtain⟨va,vn,vc,rfl,hps⟩:=id hv.open;have hvl:l.length=vn:=hps.len;subst hvl;obtain⟨g,c,bl,kb,ks,hne,hcap⟩:=k
 have hget:∀i,0<=l.getD i 0/\l.getD i 0<=9999:=fun i=>by
  rw[List.getD_eq_getElem?_getD];cases hi:l[i]? with
  |none=>exact⟨by decide,by decide⟩
  |some x=>exact hr x (List.mem_of_getElem? hi)
 obtain⟨c0,c9⟩:=hget 0;have h8:=ok.cols;have h9:=ok.rows;have hrow:=ok.row;have hcol:=ok.col;obtain⟨p1,p2,p3⟩:=ok.at_;obtain⟨s1,s2,s3⟩:=ok.small (n:=t.xs.length) rfl;have htl:=kb.lt;have hm:(t.row:Int)*(t.cols:Int)=((t.row*t.cols:Nat):Int):=by push_cast;rfl
 refine bf ?_;refine aa ?_;refine xo rfl (aG rfl (mJ (i:=0) hv)) ?_;rintro _ h1 ⟨rfl,hh1⟩;subst hh1;obtain⟨X,hX⟩:∃X,kW t l f=X:=⟨_,rfl⟩
 rw[hX];unfold kW at hX;generalize hc:l.getD 0 0=cc at *;refine aa ?_;rw[show (if cc<1 then (1:Int) else cc)=max cc 1 by split<;>omega];have hM1:¬Array.size h1<=tb:=by omega
 refine bP rfl (aA rfl (kb.cell (i:=3) rfl)) ?_;refine aa ?_;refine bP rfl (aA rfl (kb.cell (i:=1) rfl)) ?_;refine bP rfl (an.dK rfl rfl (by rw[hm];omega)) ?_;refine aa ?_;refine bP rfl (aA rfl (kb.cell (i:=4) rfl)) ?_;refine bP rfl (an.dZ rfl rfl (by rw[hm];omega)) ?_;refine aa ?_;refine bP rfl (aA rfl (kb.cell (i:=3) rfl)) ?_;refine aa ?_;refine bP rfl (aA rfl (kb.cell (i:=1) rfl)) ?_;refine bP rfl (an.dK rfl rfl (by rw[hm];omega)) ?_;rw[hm,show ((t.row*t.cols:Nat):Int)+(t.col:Int)=((t.row*t.cols+t.col:Nat):Int) by push_cast;rfl]
 iterate 2 refine mU ?_
 refine PF ?_;refine aI ?_;refine BS (fun(w:Bool) (h':ai)=>w=(t.waits && decide (¬(f=65\/f=66\/f=67\/f=68\/f=72\/f=74\/f=75)))/\az h' tb 86 (wu t.rows t.cols (gI g t.xs.length c) t.row t.col u t.sy w bl)/\Ext (fun b=>b=tb) h1 h') (fun(w:Bool)=>[(0,.pointer (some ⟨tb,0,none⟩))]) rfl ?_ ?_
 · refine aa ?_;refine xp rfl (aA rfl (kb.cell (i:=10) rfl)) ?_;refine aa ?_;refine dx 48 (fun g0=>?_) (fun g0=>?_)
   · rw[g0,Bool.true_and];refine aa ?_;refine dx 52 (fun g1=>?_) (fun g1=>?_)
     · have g1:=of_decide_eq_true g1;refine aa ?_;refine dx 56 (fun g2=>?_) (fun g2=>?_)
       · have g2:=of_decide_eq_true g2;refine aa ?_;refine dx 60 (fun g3=>?_) (fun g3=>?_)
         · have g3:=of_decide_eq_true g3;refine aa ?_;refine dx 64 (fun g4=>?_) (fun g4=>?_)
           · have g4:=of_decide_eq_true g4;refine aa ?_;refine dx 68 (fun g5=>?_) (fun g5=>?_)
             · have g5:=of_decide_eq_true g5;refine aa ?_;refine dx 72 (fun g6=>?_) (fun g6=>?_)
               · have g6:=of_decide_eq_true g6;refine aa ?_;refine aY rfl (b7 rfl rfl kb) ?_;rintro _ g3 ⟨rfl,k3,x3,z3⟩;exact ef (decide (f≠75)) ⟨by rw[decide_eq_decide];omega,k3,x3⟩
               · have q9:=of_decide_eq_false g6;refine aa ?_;refine aY rfl (b7 rfl rfl kb) ?_;rintro _ g3 ⟨rfl,k3,x3,z3⟩;exact ef false ⟨by rw[decide_eq_false (by omega)],k3,x3⟩
             · have q9:=of_decide_eq_false g5;refine aa ?_;refine aY rfl (b7 rfl rfl kb) ?_;rintro _ g3 ⟨rfl,k3,x3,z3⟩;exact ef false ⟨by rw[decide_eq_false (by omega)],k3,x3⟩
           · have q9:=of_decide_eq_false g4;refine aa ?_;refine aY rfl (b7 rfl rfl kb) ?_;rintro _ g3 ⟨rfl,k3,x3,z3⟩;exact ef false ⟨by rw[decide_eq_false (by omega)],k3,x3⟩
         · have q9:=of_decide_eq_false g3;refine aa ?_;refine aY rfl (b7 rfl rfl kb) ?_;rintro _ g3 ⟨rfl,k3,x3,z3⟩;exact ef false ⟨by rw[decide_eq_false (by omega)],k3,x3⟩
       · have q9:=of_decide_eq_false g2;refine aa ?_;refine aY rfl (b7 rfl rfl kb) ?_;rintro _ g3 ⟨rfl,k3,x3,z3⟩;exact ef false ⟨by rw[decide_eq_false (by omega)],k3,x3⟩
     · have q9:=of_decide_eq_false g1;refine aa ?_;refine aY rfl (b7 rfl rfl kb) ?_;rintro _ g3 ⟨rfl,k3,x3,z3⟩;exact ef false ⟨by rw[decide_eq_false (by omega)],k3,x3⟩
   · rw[g0,Bool.false_and];refine aa ?_;refine aY rfl (b7 rfl rfl kb) ?_;rintro _ g3 ⟨rfl,k3,x3,z3⟩;exact ef false ⟨rfl,k3,x3⟩
 · rintro w h2 ⟨hw,k2,x2⟩;have k2:az h2 tb 86 (wu t.rows t.cols (gI g t.xs.length c) t.row t.col u t.sy w bl):=k2;have ks2:=ks.ext x2 (fun q=>hne q.symm);have hM:¬Array.size h2<=tb:=by have:=k2.lt;omega
   have ok2:dw { t with waits:=w }:=⟨ok.rows,ok.cols,ok.len,ok.row,ok.col,ok.fg,ok.vf⟩
   have kd:oJ h2 tb { t with waits:=w } u:=⟨g,c,bl,k2,ks2,hne,hcap⟩
   refine aa ?_;refine aQ (fun q1=>?_) (fun q1=>?_)
   · rw[if_pos q1] at hX;rw[<-hX];obtain rfl:w=false:=by rw[hw,decide_eq_false (by omega),Bool.and_false]
     refine ic 18 17 ?_;refine ax 0 ?_;refine ax 1 ?_;refine ax 2 ?_;refine ax 3 ?_;refine ax 4 ?_;refine aS 5 rfl (fun h' e=>aA rfl (e.cell hM (k2.cell (i:=3) rfl))) ?_;refine ax 6 ?_;refine ax 7 ?_;refine ax 8 ?_;refine ax 9 ?_;refine ax 10 ?_;refine ax 11 ?_;refine aS 12 rfl (fun h' e=>aA rfl (e.cell hM (k2.cell (i:=0) rfl))) ?_;refine ct 13 rfl (aG rfl (dN _ _ ⟨by omega,by omega⟩)) ?_;rintro _ h3 ⟨rfl,hh3⟩;refine⟨fun _=>by rw[hh3];exact av _ _,?_⟩;subst hh3;rw[show (t.row:Int)-max cc 1=(t.row:Int)+ -max cc 1 by omega];refine RD.bq 14 (listed':= #[true,true,true,true,true,true,true,true,true,true,true,true,true,true,true,false,false,false]) rfl (by kernel_rfl) (by kernel_rfl) (by kernel_rfl) rfl rfl rfl (fun _=>bh rfl) rfl ?_;refine RD.bq 15 (listed':= #[true,true,true,true,true,true,true,true,true,true,true,true,true,true,true,true,false,false]) rfl (by kernel_rfl) (by kernel_rfl) (by kernel_rfl) rfl rfl rfl (fun _=>aM (off:=0) underlying86 rfl rfl H.iC rfl) rfl ?_;refine ax 16 ?_;refine eK 17 rfl (b7 rfl rfl k2) ?_;rintro _ g3 ⟨rfl,k3,x3,z3⟩;refine⟨nofun,?_⟩;refine dP ?_;refine aa ?_;refine gE ?_;exact⟨_,rfl,⟨g,c,bl,k3,ks2.ext x3 (fun q=>hne q.symm),hne,hcap⟩,x2.trans x3⟩
   · rw[if_neg q1] at hX;refine aa ?_;refine aQ (fun q2=>?_) (fun q2=>?_)
     · rw[if_pos q2] at hX;rw[<-hX];obtain rfl:w=false:=by rw[hw,decide_eq_false (by omega),Bool.and_false]
       refine ic 18 17 ?_;refine ax 0 ?_;refine ax 1 ?_;refine ax 2 ?_;refine ax 3 ?_;refine ax 4 ?_;refine aS 5 rfl (fun h' e=>aA rfl (e.cell hM (k2.cell (i:=3) rfl))) ?_;refine ax 6 ?_;refine ax 7 ?_;refine ax 8 ?_;refine ax 9 ?_;refine ax 10 ?_;refine ax 11 ?_;refine aS 12 rfl (fun h' e=>aA rfl (e.cell hM (k2.cell (i:=0) rfl))) ?_;refine ct 13 rfl (aG rfl (dN _ _ ⟨by omega,by omega⟩)) ?_;rintro _ h3 ⟨rfl,hh3⟩;refine⟨fun _=>by rw[hh3];exact av _ _,?_⟩;subst hh3;refine RD.bq 14 (listed':= #[true,true,true,true,true,true,true,true,true,true,true,true,true,true,true,false,false,false]) rfl (by kernel_rfl) (by kernel_rfl) (by kernel_rfl) rfl rfl rfl (fun _=>bh rfl) rfl ?_;refine RD.bq 15 (listed':= #[true,true,true,true,true,true,true,true,true,true,true,true,true,true,true,true,false,false]) rfl (by kernel_rfl) (by kernel_rfl) (by kernel_rfl) rfl rfl rfl (fun _=>aM (off:=0) underlying86 rfl rfl H.iC rfl) rfl ?_;refine ax 16 ?_;refine eK 17 rfl (b7 rfl rfl k2) ?_;rintro _ g3 ⟨rfl,k3,x3,z3⟩;refine⟨nofun,?_⟩;refine dP ?_;refine aa ?_;refine gE ?_;exact⟨_,rfl,⟨g,c,bl,k3,ks2.ext x3 (fun q=>hne q.symm),hne,hcap⟩,x2.trans x3⟩
     · rw[if_neg q2] at hX;refine aa ?_;refine aQ (fun q3=>?_) (fun q3=>?_)
       · rw[if_neg (by omega),if_pos q3] at hX;rw[<-hX];obtain rfl:w=false:=by rw[hw,decide_eq_false (by omega),Bool.and_false]
         refine ic 18 17 ?_;refine ax 0 ?_;refine ax 1 ?_;refine ax 2 ?_;refine ax 3 ?_;refine ax 4 ?_;refine aS 5 rfl (fun h' e=>aA rfl (e.cell hM (k2.cell (i:=4) rfl))) ?_;refine ax 6 ?_;refine ax 7 ?_;refine ax 8 ?_;refine ax 9 ?_;refine ax 10 ?_;refine ax 11 ?_;refine aS 12 rfl (fun h' e=>aA rfl (e.cell hM (k2.cell (i:=1) rfl))) ?_;refine ct 13 rfl (aG rfl (dN _ _ ⟨by omega,by omega⟩)) ?_;rintro _ h3 ⟨rfl,hh3⟩;refine⟨fun _=>by rw[hh3];exact av _ _,?_⟩;subst hh3;refine RD.bq 14 (listed':= #[true,true,true,true,true,true,true,true,true,true,true,true,true,true,true,false,false,false]) rfl (by kernel_rfl) (by kernel_rfl) (by kernel_rfl) rfl rfl rfl (fun _=>bh rfl) rfl ?_;refine RD.bq 15 (listed':= #[true,true,true,true,true,true,true,true,true,true,true,true,true,true,true,true,false,false]) rfl (by kernel_rfl) (by kernel_rfl) (by kernel_rfl) rfl rfl rfl (fun _=>aM (off:=0) underlying86 rfl rfl H.iC rfl) rfl ?_;refine ax 16 ?_;refine eK 17 rfl (b7 rfl rfl k2) ?_;rintro _ g3 ⟨rfl,k3,x3,z3⟩;refine⟨nofun,?_⟩;refine dP ?_;refine aa ?_;refine gE ?_;exact⟨_,rfl,⟨g,c,bl,k3,ks2.ext x3 (fun q=>hne q.symm),hne,hcap⟩,x2.trans x3⟩
       · refine aa ?_;refine aQ (fun q4=>?_) (fun q4=>?_)
         · rw[if_pos q4] at hX;rw[<-hX];obtain rfl:w=false:=by rw[hw,decide_eq_false (by omega),Bool.and_false]
           refine ic 18 17 ?_;refine ax 0 ?_;refine ax 1 ?_;refine ax 2 ?_;refine ax 3 ?_;refine ax 4 ?_;refine aS 5 rfl (fun h' e=>aA rfl (e.cell hM (k2.cell (i:=4) rfl))) ?_;refine ax 6 ?_;refine ax 7 ?_;refine ax 8 ?_;refine ax 9 ?_;refine ax 10 ?_;refine ax 11 ?_;refine aS 12 rfl (fun h' e=>aA rfl (e.cell hM (k2.cell (i:=1) rfl))) ?_;refine ct 13 rfl (aG rfl (dN _ _ ⟨by omega,by omega⟩)) ?_;rintro _ h3 ⟨rfl,hh3⟩;refine⟨fun _=>by rw[hh3];exact av _ _,?_⟩;subst hh3;rw[show (t.col:Int)-max cc 1=(t.col:Int)+ -max cc 1 by omega];refine RD.bq 14 (listed':= #[true,true,true,true,true,true,true,true,true,true,true,true,true,true,true,false,false,false]) rfl (by kernel_rfl) (by kernel_rfl) (by kernel_rfl) rfl rfl rfl (fun _=>bh rfl) rfl ?_;refine RD.bq 15 (listed':= #[true,true,true,true,true,true,true,true,true,true,true,true,true,true,true,true,false,false]) rfl (by kernel_rfl) (by kernel_rfl) (by kernel_rfl) rfl rfl rfl (fun _=>aM (off:=0) underlying86 rfl rfl H.iC rfl) rfl ?_;refine ax 16 ?_;refine eK 17 rfl (b7 rfl rfl k2) ?_;rintro _ g3 ⟨rfl,k3,x3,z3⟩;refine⟨nofun,?_⟩;refine dP ?_;refine aa ?_;refine gE ?_;exact⟨_,rfl,⟨g,c,bl,k3,ks2.ext x3 (fun q=>hne q.symm),hne,hcap⟩,x2.trans x3⟩
         · rw[if_neg q4,if_neg q3] at hX;refine aa ?_;refine aQ (fun q5=>?_) (fun q5=>?_)
           · rw[if_pos q5] at hX;rw[<-hX];obtain rfl:w=false:=by rw[hw,decide_eq_false (by omega),Bool.and_false]
             have hvn:aR Bc h2 (fun b=>b=tb) (.slice va l.length vc) l:=hv.mv (Mv.dI x2 fun b _ ho=>⟨ho,ho⟩);obtain⟨d0,d9⟩:=hget 1;refine ic 27 22 ?_;refine ax 0 ?_;refine ax 2 ?_;refine ax 3 ?_;refine ax 4 ?_;refine ax 5 ?_;refine ax 6 ?_;refine ax 7 ?_;refine aS 8 rfl (fun h' e=>aA rfl (e.cell hM (k2.cell (i:=0) rfl))) ?_;refine ax 10 ?_;refine ax 13 ?_;refine ax 14 ?_;refine ax 15 ?_;refine ax 16 ?_;refine aS 17 rfl (fun h' e=>aA rfl (e.cell hM (k2.cell (i:=1) rfl))) ?_;refine RD.bq 1 (listed':= #[true,true,true,true,true,true,true,true,true,false,true,false,false,true,true,true,true,true,false,false,false,false,false,false,false,false,false]) rfl (by kernel_rfl) (by kernel_rfl) (by kernel_rfl) rfl rfl rfl (fun _=>aD rfl) rfl ?_;refine ct 9 rfl (aG rfl (dN (cc-1) t.rows ⟨by omega,by omega⟩)) ?_;rintro _ h3 ⟨rfl,hh3⟩;refine⟨fun _=>by rw[hh3];exact av _ _,?_⟩;subst hh3;have hpc:aj Tryz.prog 99 #[.slice va l.length vc,.int .i64 1] h3 (aN fun q h'=>q= .int .i64 (l.getD 1 0)/\h'=h3):=mJ hvn (i:=1);generalize hd:l.getD 1 0=d at *;refine ct 11 rfl (aG rfl hpc) ?_;rintro _ h4 ⟨rfl,hh4⟩;refine⟨fun _=>by rw[hh4];exact av _ _,?_⟩;subst hh4;refine RD.bq 12 (listed':= #[true,true,true,true,true,true,true,true,true,true,true,true,true,true,true,true,true,true,false,false,false,false,false,false,false,false,false]) rfl (by kernel_rfl) (by kernel_rfl) (by kernel_rfl) rfl rfl rfl (fun _=>an.pQ rfl rfl ⟨by omega,by omega⟩) rfl ?_;refine ct 18 rfl (aG rfl (dN (d-1) t.cols ⟨by omega,by omega⟩)) ?_;rintro _ h5 ⟨rfl,hh5⟩;refine⟨fun _=>by rw[hh5];exact av _ _,?_⟩;subst hh5;refine RD.bq 19 (listed':= #[true,true,true,true,true,true,true,true,true,true,true,true,true,true,true,true,true,true,true,true,false,false,false,false,false,false,false]) rfl (by kernel_rfl) (by kernel_rfl) (by kernel_rfl) rfl rfl rfl (fun _=>bh rfl) rfl ?_;refine RD.bq 20 (listed':= #[true,true,true,true,true,true,true,true,true,true,true,true,true,true,true,true,true,true,true,true,true,false,false,false,false,false,false]) rfl (by kernel_rfl) (by kernel_rfl) (by kernel_rfl) rfl rfl rfl (fun _=>aM (off:=0) underlying86 rfl rfl H.iC rfl) rfl ?_;refine ax 21 ?_;refine eK 22 rfl (b7 rfl rfl k2) ?_;rintro _ g3 ⟨rfl,k3,x3,z3⟩;refine⟨nofun,?_⟩;refine RD.bq 23 (listed':= #[true,true,true,true,true,true,true,true,true,true,true,true,true,true,true,true,true,true,true,true,true,true,true,true,false,false,false]) rfl (by kernel_rfl) (by kernel_rfl) (by kernel_rfl) rfl rfl rfl (fun _=>bh rfl) rfl ?_;refine RD.bq 24 (listed':= #[true,true,true,true,true,true,true,true,true,true,true,true,true,true,true,true,true,true,true,true,true,true,true,true,true,false,false]) rfl (by kernel_rfl) (by kernel_rfl) (by kernel_rfl) rfl rfl rfl (fun _=>aM (off:=0) underlying86 rfl rfl H.iC rfl) rfl ?_;refine ax 25 ?_;refine eK 26 rfl (b7 rfl rfl k3) ?_;rintro _ g4 ⟨rfl,k4,x4,z4⟩;refine⟨nofun,?_⟩;refine dP ?_;refine aa ?_;refine gE ?_;exact⟨_,rfl,⟨g,c,bl,k4,(ks2.ext x3 (fun q=>hne q.symm)).ext x4 (fun q=>hne q.symm),hne,hcap⟩,(x2.trans x3).trans x4⟩
           · rw[if_neg q5] at hX;refine aa ?_;refine aQ (fun q6=>?_) (fun q6=>?_)
             · rw[if_neg (by omega),if_pos q6] at hX;obtain rfl:w=false:=by rw[hw,decide_eq_false (by omega),Bool.and_false]
               refine aa ?_;refine aQ (fun r0=>?_) (fun r0=>?_)
               · have hX':X= { t with xs:=fP t.xs (t.row*t.cols+t.col) (t.xs.length-(t.row*t.cols+t.col)),waits:=false }:=by rw[<-hX];unfold eO;rw[if_pos r0]
                 rw[hX'];refine aa ?_;refine xp rfl (aA rfl (k2.cell (i:=2) rfl)) ?_;refine aa ?_;refine xo rfl (aG rfl (fZ ok2 kd (a:=t.row*t.cols+t.col) (b:=t.xs.length) (Nat.le_refl _))) ?_;rintro _ g3 ⟨k3,x3⟩;refine aa ?_;refine gE ?_;exact⟨_,rfl,k3,x2.trans x3⟩
               · refine aa ?_;refine aQ (fun r1=>?_) (fun r1=>?_)
                 · have hX':X= { t with xs:=fP t.xs 0 (t.row*t.cols+t.col+1-0),waits:=false }:=by rw[<-hX];unfold eO;rw[if_neg r0,if_pos r1]
                   rw[hX'];refine aa ?_;refine xo rfl (aG rfl (fZ ok2 kd (a:=0) (b:=t.row*t.cols+t.col+1) p1)) ?_;rintro _ g3 ⟨k3,x3⟩;refine aa ?_;refine gE ?_;exact⟨_,rfl,k3,x2.trans x3⟩
                 · refine aa ?_;refine aQ (fun r2=>?_) (fun r2=>?_)
                   · have hX':X= { t with xs:=fP t.xs 0 (t.xs.length-0),waits:=false }:=by rw[<-hX];unfold eO;rw[if_neg r0,if_neg r1,if_pos r2]
                     rw[hX'];refine aa ?_;refine xp rfl (aA rfl (k2.cell (i:=2) rfl)) ?_;refine aa ?_;refine xo rfl (aG rfl (fZ ok2 kd (a:=0) (b:=t.xs.length) (Nat.le_refl _))) ?_;rintro _ g3 ⟨k3,x3⟩;refine aa ?_;refine gE ?_;exact⟨_,rfl,k3,x2.trans x3⟩
                   · have hX':X= { t with waits:=false }:=by rw[<-hX];unfold eO;rw[if_neg r0,if_neg r1,if_neg r2]
                     rw[hX'];refine aa ?_;refine gE ?_;exact⟨_,rfl,kd,x2⟩
             · refine aa ?_;refine aQ (fun q7=>?_) (fun q7=>?_)
               · rw[if_pos q7] at hX;obtain rfl:w=false:=by rw[hw,decide_eq_false (by omega),Bool.and_false]
                 refine aa ?_;refine aQ (fun r0=>?_) (fun r0=>?_)
                 · have hX':X= { t with xs:=fP t.xs (t.row*t.cols+t.col) (t.row*t.cols+t.cols-(t.row*t.cols+t.col)),waits:=false }:=by rw[<-hX];unfold eO;rw[if_pos r0]
                   rw[hX'];refine aa ?_;refine xp rfl (aA rfl (k2.cell (i:=1) rfl)) ?_;refine aa ?_;refine xo rfl (aG rfl (fZ ok2 kd (a:=t.row*t.cols+t.col) (b:=t.row*t.cols+t.cols) p3)) ?_;rintro _ g3 ⟨k3,x3⟩;refine aa ?_;refine gE ?_;exact⟨_,rfl,k3,x2.trans x3⟩
                 · refine aa ?_;refine aQ (fun r1=>?_) (fun r1=>?_)
                   · have hX':X= { t with xs:=fP t.xs (t.row*t.cols) (t.row*t.cols+t.col+1-t.row*t.cols),waits:=false }:=by rw[<-hX];unfold eO;rw[if_neg r0,if_pos r1]
                     rw[hX'];refine aa ?_;refine xo rfl (aG rfl (fZ ok2 kd (a:=t.row*t.cols) (b:=t.row*t.cols+t.col+1) p1)) ?_;rintro _ g3 ⟨k3,x3⟩;refine aa ?_;refine gE ?_;exact⟨_,rfl,k3,x2.trans x3⟩
                   · refine aa ?_;refine aQ (fun r2=>?_) (fun r2=>?_)
                     · have hX':X= { t with xs:=fP t.xs (t.row*t.cols) (t.row*t.cols+t.cols-t.row*t.cols),waits:=false }:=by rw[<-hX];unfold eO;rw[if_neg r0,if_neg r1,if_pos r2]
                       rw[hX'];refine aa ?_;refine xp rfl (aA rfl (k2.cell (i:=1) rfl)) ?_;refine aa ?_;refine xo rfl (aG rfl (fZ ok2 kd (a:=t.row*t.cols) (b:=t.row*t.cols+t.cols) p3)) ?_;rintro _ g3 ⟨k3,x3⟩;refine aa ?_;refine gE ?_;exact⟨_,rfl,k3,x2.trans x3⟩
                     · have hX':X= { t with waits:=false }:=by rw[<-hX];unfold eO;rw[if_neg r0,if_neg r1,if_neg r2]
                       rw[hX'];refine aa ?_;refine gE ?_;exact⟨_,rfl,kd,x2⟩
               · rw[if_neg q7,if_neg q6] at hX;obtain rfl:w=t.waits:=by rw[hw,decide_eq_true (by omega),Bool.and_true]
                 refine aa ?_;refine aQ (fun q8=>?_) (fun q8=>?_)
                 · rw[if_pos q8] at hX;rw[<-hX];refine aa ?_
                   have lp:∀(s0:qY) (h':ai) (ρ':Env),Sub [(0,.pointer (some ⟨tb,0,none⟩)),(1,.slice va l.length vc)] ρ'->l.foldl eF s0=(if l=[] then pP else l.foldl eF t.sy)->az h' tb 86 (wu t.rows t.cols (gI g t.xs.length c) t.row t.col u s0 t.waits bl)->Ext (fun b=>b=tb) h2 h'->G Tryz.prog 62 f62 [.code [1,0,1,1,1,1,1,1,1,1,1,1,1,1,1,1,1,0,1,1,1,1,1],.blk 0] ρ' h' (aN fun _ h'=>oJ h' tb { t with sy:=if l=[] then pP else l.foldl eF t.sy } u/\Ext (fun b=>b=tb) h1 h'):=by
                    rintro s0 h3 ρ' hsub hs0 k3 x3;refine G.sub (ρ':=[(0,.pointer (some ⟨tb,0,none⟩)),(1,.slice va l.length vc)]) hsub ?_;rw[<-hs0];refine aa ?_;refine eR (σ:=Nat) (fun j=>[(10,.int .i64 (j:Nat))]) (fun j g'=>j<=l.length/\az g' tb 86 (wu t.rows t.cols (gI g t.xs.length c) t.row t.col u ((l.take j).foldl eF s0) t.waits bl)/\Ext (fun b=>b=tb) h3 g') (fun j=>l.length-j) (0) ⟨Nat.zero_le _,k3,av _ _⟩ rfl ?_;rintro j g3 ⟨hj,kj,xj⟩ ih;have x13:=(x2.trans x3).trans xj;refine aa ?_;refine aQ (fun hlt=>?_) (fun hlt=>?_)
                    · have hjl:j<l.length:=by omega
                      obtain⟨b,o,x,ha,hnb,hx,hrowx⟩:=hps.at (i:=j) hjl;have hrowx:cellAt g3 ⟨b,o+j*1,none⟩=some (.int .i64 x):=x13.cell (fun q=>hnb q) hrowx;have hbl3:b<g3.size:=ck hrowx;have htk:(l.take (j+1)).foldl eF s0=eF ((l.take j).foldl eF s0) x:=by rw[List.take_add_one,hx,List.foldl_append];rfl
                      generalize (l.take j).foldl eF s0=s at *;have hMj:¬Array.size g3<=tb:=by have:=kj.lt;omega
                      have hlk:=fun h=>Ao (h:=h) s x
                      refine aa ?_;refine ic 13 12 ?_;refine ax 0 ?_;refine ax 1 ?_;refine ax 2 ?_;refine ax 3 ?_;refine aS 4 rfl (fun h' e=>bI rfl (e.rowAt hMj (Ko kj))) ?_;refine ax 5 ?_;refine ax 6 ?_;refine aS 7 rfl (fun h' e=>bT rfl rfl j rfl ha) ?_;refine aS 8 rfl (fun h' e=>aA rfl (e.cell (Nat.not_le.2 hbl3) hrowx)) ?_;refine ct 9 rfl (aG rfl (hlk _)) ?_;rintro _ g4 ⟨rfl,e4⟩;refine⟨fun _=>e4.of,?_⟩;refine RD.bq 10 (listed':= #[true,true,true,true,true,true,true,true,true,true,true,false,false]) rfl (by kernel_rfl) (by kernel_rfl) (by kernel_rfl) rfl rfl rfl (fun _=>bh rfl) rfl ?_;refine ax 11 ?_;refine eK 12 rfl (bM rfl rfl ((kj.af e4)) ((PK _))) ?_;rintro _ g5 ⟨rfl,k5,x5,z5⟩;refine⟨nofun,?_⟩;have k5:az g5 tb 86 (wu t.rows t.cols (gI g t.xs.length c) t.row t.col u (eF s x) t.waits bl):=k5;refine dP ?_;refine aa ?_;exact ih (j+1) ⟨hjl,by rw[htk];exact k5,(j6 xj e4).trans x5⟩
                    · obtain rfl:j=l.length:=by omega
                      rw[List.take_length] at kj;refine aa ?_;refine gE ?_;exact⟨_,rfl,⟨g,c,bl,kj,ks.ext x13 (fun q=>hne q.symm),hne,hcap⟩,x13⟩
                   refine aQ (fun r0=>?_) (fun r0=>?_)
                   · obtain rfl:l=[]:=List.length_eq_zero_iff.1 (by omega);refine aa ?_;refine xp rfl (au (H.qu ) rfl) ?_;refine aa ?_;refine aY rfl (bM rfl rfl k2) ?_;rintro _ g3 ⟨rfl,k3,x3,z3⟩;refine bJ ?_;have k3:az g3 tb 86 (wu t.rows t.cols (gI g t.xs.length c) t.row t.col u pP t.waits bl):=k3;exact lp pP _ _ (by exact sb rfl) rfl k3 x3
                   · refine aI ?_;exact lp t.sy _ _ (by exact sb rfl) (by rw[if_neg (by rintro rfl;exact r0 rfl)]) k2 (av _ _)
                 · rw[if_neg q8] at hX;rw[<-hX];refine aa ?_;refine gE ?_;exact⟨_,rfl,kd,x2⟩
theorem IC (s:By):ij s<2147483648:=by
 have h0:=(s.getD 0 0).toNat_lt;have h1:=(s.getD 1 0).toNat_lt;have h2:=(s.getD 2 0).toNat_lt;have h3:=(s.getD 3 0).toNat_lt;unfold ij Lib.decodeN
 repeat' split
 all_goals first|omega|(dsimp only;omega)
def mw (l:List Ac):Prop:=∀y∈l,∃m:Nat,y.2.1=m/\m<2147483648
theorem mw.one (k:Int) (m:Nat) (l:List Int) (f:Int) (h:m<2147483648):mw [(k,(m:Int),l,f)]:=fun y hy=>by rw[List.mem_singleton] at hy;subst hy;exact⟨m,rfl,h⟩
theorem mw.nil:mw []:=fun y hy=>by cases hy
theorem AZ (b:UInt8):mw (jc b).2:=by
 have hb:=b.toNat_lt;unfold jc
 repeat' split
 all_goals first|exact mw.nil|exact mw.one _ _ _ _ (by omega)|exact mw.one 5 0 _ _ (by decide)
theorem E7 (u:By) (b:UInt8):mw (gP u b).2:=by
 have hb:=b.toNat_lt;have h5:mw [FK]:=mw.one 5 0 _ _ (by decide);unfold gP Ag rQ
 repeat' split
 all_goals first|exact AZ b|exact h5|exact mw.nil|exact mw.one _ _ _ _ (by omega)|exact mw.one _ _ _ _ (IC _)|exact mw.one 4 0 _ _ (by decide)|exact mw.one 3 0 _ _ (by decide)|exact fun y hy=>(List.mem_cons.1 hy).elim (fun q=>⟨0,by rw[q];rfl,by decide⟩) (AZ b y)
section
variable {h h':ai}{tb:Nat}
theorem uD {q:TU}(ok:dw q.1) (hu:vw q.2) (k:oJ h tb q.1 q.2){s:By}(hl:q.2.length+s.length<=80000) :
 aj Tryz.prog 36 #[.pointer (some ⟨tb,0,none⟩),.string (bs s)] h (aN fun _ h'=>oJ h' tb (cx q s).1 (cx q s).2/\dw (cx q s).1/\vw (cx q s).2/\(cx q s).2.length<=q.2.length+s.length/\Ext (fun b=>b=tb) h h'):=by
 have hbs:=aC s;have htl:tb<h.size:=let ⟨_,_,_,q,_⟩:=k;q.lt;refine bf ?_;refine aa ?_;refine zB (σ:=Nat×TU) (fun p=>[(0,.pointer (some ⟨tb,0,none⟩)),(1,.string (bs s)),(4,.int .i64 (p.1:Nat))]) (fun p g'=>p.1<=s.length/\oJ g' tb p.2.1 p.2.2/\dw p.2.1/\vw p.2.2/\p.2.2.length<=q.2.length+p.1/\cx p.2 (s.drop p.1)=cx q s/\Ext (fun b=>b=tb) h g') (fun p=>s.length-p.1) ((0,q)) ⟨Nat.zero_le _,k,ok,hu,Nat.le_refl _,rfl,av _ _⟩ ?_;rintro⟨i,t,u⟩ g1 ⟨hi,kt,okt,oku,hul,hf,xg⟩ ih
 try dsimp only
 dsimp only at hi kt okt oku hul hf;have zxg:=xg.size;obtain⟨gc,c,bl,kb,ks,hne,hcap⟩:=id kt;refine aa ?_;refine aQ (fun hlt=>?_) (fun hlt=>?_)
 · have hi':i<s.length:=by omega
   obtain⟨x,hx⟩:∃x,s[i]? =some x:=⟨_,List.getElem?_eq_getElem hi'⟩
   have hdr:s.drop i=x::s.drop (i+1):=by rw[List.drop_eq_getElem_cons hi'];congr 1;rw[List.getElem?_eq_getElem hi'] at hx;exact Option.some.inj hx
   rw[hdr] at hf;have hf:cx (zV (t,u) x) (s.drop (i+1))=cx q s:=hf;obtain⟨ou1,ou2,ou3⟩:=DW u x oku;have hru:=E7 u x;have hM:¬Array.size g1<=tb:=by omega
   have hpf:=fun h=>A8 (h:=h) u x (by omega)
   unfold zV at hf;generalize hfd:gP u x=fd at *;obtain⟨u',l⟩:=fd;dsimp only at *;refine aa ?_;refine ic 13 13 ?_;refine ax 0 ?_;refine ax 1 ?_;refine ax 2 ?_;refine aS 3 rfl (fun h' e=>aA rfl (e.cell hM (kb.cell (i:=5) rfl))) ?_;refine ax 4 ?_;refine ax 5 ?_;refine aS 6 rfl (fun h' e=>oK rfl rfl i rfl (cQ hx)) ?_;refine ct 7 rfl (aG rfl (hpf _)) ?_;rintro _ g2 ⟨⟨v,rfl,ka⟩,e2⟩;refine⟨fun _=>e2.of,?_⟩;refine ax 8 ?_;refine ax 9 ?_;refine ax 10 ?_;refine ax 11 ?_;refine ax 12 ?_;refine dP ?_;refine aa ?_;have kb2:=kb.af e2;have ks2:=ks.af e2;obtain⟨oa,m,c2,rfl,hlm,hm2,-⟩:=id ka;refine aY rfl (b7 rfl rfl kb2) ?_;rintro _ g3 ⟨rfl,k3,x3,z3⟩;refine aa ?_;have k3:az g3 tb 86 (wu t.rows t.cols (gI gc t.xs.length c) t.row t.col u' t.sy t.waits bl):=k3;have kt3:oJ g3 tb t u':=⟨gc,c,bl,k3,ks2.ext x3 (fun q=>hne q.symm),hne,hcap⟩
   have ka3:=ka.ext x3 (by omega);have x13:Ext (fun b=>b=tb) g1 g3:=(e2.mono fun _ _ q=>q.elim).trans x3;refine zB (σ:=Nat) (fun j=>[(0,.pointer (some ⟨tb,0,none⟩)),(1,.string (bs s)),(4,.int .i64 (i:Nat)),(6,.slice oa m c2),(7,.int .i64 (j:Nat))]) (fun j g'=>j<=m/\oJ g' tb ((l.take j).foldl ji t) u'/\gM g' g1.size (.slice oa m c2) l/\Ext (fun b=>b=tb) g1 g') (fun j=>m-j) (0) ⟨Nat.zero_le _,kt3,ka3,x13⟩ ?_;rintro j g4 ⟨hj,kt4,ka4,x14⟩ ih2;refine aa ?_;refine aQ (fun hlt2=>?_) (fun hlt2=>?_)
   · have hjl:j<l.length:=by omega
     obtain⟨y,hy⟩:∃y,l[j]? =some y:=⟨_,List.getElem?_eq_getElem hjl⟩
     have z14:=x14.size;obtain⟨oa',m',c',eq,-,-,hrows4⟩:=id ka4;cases eq;obtain⟨b,p,rfl,hbL,hrow,p1,hps⟩:=hrows4 j y hy;have htk:(l.take (j+1)).foldl ji t=ji ((l.take j).foldl ji t) y:=by rw[List.take_add_one,hy,List.foldl_append];rfl
     have okj:=dw.HV (l.take j) okt;obtain⟨hy1,hy2⟩:=ou3 y (List.mem_of_getElem? hy);obtain⟨rn,hrn,hrnl⟩:=hru y (List.mem_of_getElem? hy);generalize (l.take j).foldl ji t=tj at *
     rcases y with ⟨yk,yr,yl,yf⟩
     dsimp only at hrow hps hy1 hy2 hrn;subst hrn
     iterate 4 refine aI ?_
     refine bU ?_
     iterate 2 refine aU ?_
     refine xp rfl (bT rfl rfl j rfl rfl) ?_;refine xp rfl (bI rfl hrow) ?_;refine xo rfl (cC) ?_;rintro _ g5 ⟨rfl,kn,e5,z5⟩;refine aY rfl (bM rfl rfl kn ((Ox p1))) ?_;rintro _ g6 ⟨rfl,k6,x6,z6⟩;refine aa ?_;have e46:ah g4 g6:=ah.only e5 x6 (Nat.le_refl _);have k6:az g6 g4.size 125 (jo yk (rn:Int) p yf):=k6;have kt6:=kt4.af e46;have ka6:=ka4.ext (e46.mono fun _ _ q=>q.elim) (fun _ q=>q);have x16:Ext (fun b=>b=tb) g1 g6:=j6 x14 e46;refine xp rfl (aA rfl (k6.cell (i:=0) rfl)) ?_;refine aa ?_
     have nx:∀(t':TM) (h':ai) (ρ':Env),Sub [(0,.pointer (some ⟨tb,0,none⟩)),(1,.string (bs s)),(4,.int .i64 (i:Nat)),(6,.slice (some ⟨b,0,none⟩) m c2),(7,.int .i64 (j:Nat))] ρ'->t'=ji tj (yk,(rn:Int),yl,yf)->oJ h' tb t' u'->Ext (fun b=>b=tb) g6 h'->G Tryz.prog 36 Tryz.f36 [.blk 3,.code [1,1,0,0,1,1,1,0,0,1,0,0,1],.loop [0,0,1,1,1,0,0,1,0,0,1],.blk 2,.blk 1,.code [1,1,0,0,1],.loop [0,0,1],.blk 0] ρ' h' (aN fun _ h'=>oJ h' tb (cx q s).1 (cx q s).2/\dw (cx q s).1/\vw (cx q s).2/\(cx q s).2.length<=q.2.length+s.length/\Ext (fun b=>b=tb) h h'):=by
      rintro t' g7 ρ' hsub ht' k7 x7;refine G.sub (ρ':=[(0,.pointer (some ⟨tb,0,none⟩)),(1,.string (bs s)),(4,.int .i64 (i:Nat)),(6,.slice (some ⟨b,0,none⟩) m c2),(7,.int .i64 (j:Nat))]) hsub ?_;refine aa ?_;exact ih2 (j+1) ⟨by omega,by rw[htk,<-ht'];exact k7,ka6.ext x7 (fun b q=>by omega),x16.trans x7⟩
     obtain⟨X,hX⟩:∃X,ji tj (yk,(rn:Int),yl,yf)=X:=⟨_,rfl⟩
     rw[hX] at nx;unfold ji at hX;dsimp only at hX;obtain⟨gc6,c6,bl6,kb6,ks6,hne6,hcap6⟩:=id kt6;refine aQ (fun q1=>?_) (fun q1=>?_)
     · rw[if_pos q1] at hX;have hsh:=fun h=>Cc (h:=h) rn hrnl
       refine aa ?_;refine xp rfl (aA rfl (k6.cell (i:=1) rfl)) ?_;refine xo rfl (aG rfl (hsh _)) ?_;rintro _ g7 ⟨rfl,e7⟩;refine xo rfl (aG rfl (xC okj (kt6.af e7) (Cl _))) ?_;rintro _ g8 ⟨k8,x8⟩;refine bJ ?_;refine aI ?_;exact nx X _ _ (by exact sb rfl) rfl (by rw[<-hX];exact k8) ((e7.mono fun _ _ q=>q.elim).trans x8)
     · rw[if_neg q1] at hX;refine aa ?_;refine aQ (fun q2=>?_) (fun q2=>?_)
       · rw[if_pos q2] at hX;unfold Fc at hX;refine aa ?_;refine xp rfl (aA rfl (k6.cell (i:=1) rfl)) ?_;refine aa ?_;refine aQ (fun r7=>?_) (fun r7=>?_)
         · rw[if_pos r7] at hX;refine aa ?_;refine xp rfl (aA rfl (kb6.cell (i:=11) rfl)) ?_;refine xp rfl (an.add rfl rfl) ?_;refine aa ?_;refine aY rfl (b7 rfl rfl kb6) ?_;rintro _ g7 ⟨rfl,k7,x7,z7⟩;refine bJ ?_;refine aI ?_;exact nx X _ _ (by exact sb rfl) rfl (by rw[<-hX];exact⟨gc6,c6,_,k7,ks6.ext x7 (fun q=>hne6 q.symm),hne6,hcap6⟩) x7
         · rw[if_neg r7] at hX;refine aa ?_;refine xp rfl (aA rfl (k6.cell (i:=1) rfl)) ?_;refine aa ?_;refine aQ (fun r13=>?_) (fun r13=>?_)
           · rw[if_pos r13] at hX;refine aa ?_;refine aY rfl (b7 rfl rfl kb6) ?_;rintro _ g7 ⟨rfl,k7,x7,z7⟩;refine aa ?_;refine aY rfl (b7 rfl rfl k7) ?_;rintro _ g8 ⟨rfl,k8,x8,z8⟩;refine bJ ?_;refine aI ?_;exact nx X _ _ (by exact sb rfl) rfl (by rw[<-hX];exact⟨gc6,c6,bl6,k8,(ks6.ext x7 (fun q=>hne6 q.symm)).ext x8 (fun q=>hne6 q.symm),hne6,hcap6⟩) (x7.trans x8)
           · rw[if_neg r13] at hX;refine aa ?_;refine xp rfl (aA rfl (k6.cell (i:=1) rfl)) ?_;refine aa ?_;refine aQ (fun r8=>?_) (fun r8=>?_)
             · rw[if_pos r8] at hX;have hcj:=okj.col;have hcj2:=okj.cols;refine aa ?_;refine xp rfl (aA rfl (kb6.cell (i:=4) rfl)) ?_;refine aa ?_;rw[show (if (0:Int)<(tj.col:Int)-1 then (tj.col:Int)-1 else 0)=((tj.col-1:Nat):Int) by split<;>omega];refine aY rfl (b7 rfl rfl kb6) ?_;rintro _ g7 ⟨rfl,k7,x7,z7⟩;refine aa ?_;refine aY rfl (b7 rfl rfl k7) ?_;rintro _ g8 ⟨rfl,k8,x8,z8⟩;refine bJ ?_;refine aI ?_;exact nx X _ _ (by exact sb rfl) rfl (by rw[<-hX];exact⟨gc6,c6,bl6,k8,(ks6.ext x7 (fun q=>hne6 q.symm)).ext x8 (fun q=>hne6 q.symm),hne6,hcap6⟩) (x7.trans x8)
             · rw[if_neg r8] at hX;refine aa ?_;refine xp rfl (aA rfl (k6.cell (i:=1) rfl)) ?_;refine aa ?_;refine aQ (fun r10=>?_) (fun r10=>?_)
               · rw[if_pos r10] at hX;refine aa ?_;refine xo rfl (aG rfl (nR okj kt6)) ?_;rintro _ g7 ⟨k7,x7⟩;refine aa ?_;obtain⟨gc7,c7,bl7,kb7,ks7,hne7,hcap7⟩:=k7;refine aY rfl (b7 rfl rfl kb7) ?_;rintro _ g8 ⟨rfl,k8,x8,z8⟩;refine bJ ?_;refine aI ?_;exact nx X _ _ (by exact sb rfl) rfl (by rw[<-hX];exact⟨gc7,c7,bl7,k8,ks7.ext x8 (fun q=>hne7 q.symm),hne7,hcap7⟩) (x7.trans x8)
               · rw[if_neg r10] at hX
                 iterate 2 refine aI ?_
                 exact nx X _ _ (by exact sb rfl) rfl (by rw[<-hX];exact kt6) (av _ _)
       · rw[if_neg q2] at hX;refine aa ?_;refine aQ (fun q3=>?_) (fun q3=>?_)
         · rw[if_pos q3] at hX;have hps6:aR Bc g6 (fun b=>b=tb) p yl:=hps.mv (Mv.dI e46 fun b _ ho=>⟨fun q=>q,by omega⟩);refine aa ?_;refine xp rfl (aA rfl (k6.cell (i:=2) rfl)) ?_;refine aa ?_;refine xp rfl (aA rfl (k6.cell (i:=3) rfl)) ?_;refine xo rfl (aG rfl (Ai okj kt6 hps6 (by omega) hy2 yf)) ?_;rintro _ g7 ⟨k7,x7⟩;refine bJ ?_;refine aI ?_;exact nx X _ _ (by exact sb rfl) rfl (by rw[<-hX];exact k7) x7
         · rw[if_neg q3] at hX
           iterate 2 refine aI ?_
           exact nx X _ _ (by exact sb rfl) rfl (by rw[<-hX];exact kt6) (av _ _)
   · obtain rfl:j=l.length:=by omega
     rw[List.take_length] at kt4;refine aa ?_;exact ih (i+1,(l.foldl ji t,u')) ⟨hi',kt4,dw.HV l okt,ou1,by show u'.length<=_;omega,hf,xg.trans x14⟩
 · obtain rfl:i=s.length:=by omega
   rw[List.drop_length] at hf;have hf:(t,u)=cx q s:=hf;rw[<-hf];refine aa ?_;refine gE ?_;exact⟨_,rfl,kt,okt,oku,hul,xg⟩
end
theorem xA (hr:2<=rows/\rows<=100) (hc:8<=cols/\cols<=200):aj Tryz.prog 35 #[.int .i64 (rows:Nat),.int .i64 (cols:Nat)] h (aN fun r h'=>(∃tb,r= .tuple #[.pointer (some ⟨tb,0,none⟩),.int .i64 0]/\h.size<=tb/\oJ h' tb (uH rows cols) [])/\ah h h'):=by
 refine bf ?_;refine aa ?_;refine xo rfl (aG rfl (lH hr hc)) ?_;rintro _ h1 ⟨⟨g,c,rfl,hcap,hg,kS⟩,e1⟩;refine aa ?_;refine xo rfl (cC) ?_;rintro _ h2 ⟨rfl,k2,e2,z2⟩;refine aY rfl (bM rfl rfl k2 ((jw rfl))) ?_;rintro _ h3 ⟨rfl,k3,x3,z3⟩;refine aa ?_;have hlen:(uH rows cols).xs.length=rows*cols:=List.length_replicate;have hgl:=kS.lt;have z1:=e1.size;have k3:az h3 h1.size 41 (cy rows cols (gI g (rows*cols) c) 0 0):=k3;refine bV rfl (by decide) ?_;refine aa ?_;refine xp rfl (bI rfl k3.row) ?_;refine xp rfl (au (H.Li _ _ _ _ _) rfl) ?_;refine xo rfl (cM) ?_;rintro _ h4 ⟨rfl,k4,e4,z4⟩;refine aa ?_;have k4:az h4 h3.size 86 (wu rows cols (gI g (rows*cols) c) (0:Nat) (0:Nat) [] pP false 0):=k4;refine aW ?_;exact⟨_,rfl,⟨_,rfl,by omega,g,c,0,by rw[hlen];exact k4,by rw[hlen];exact((kS.af e2).ext x3 (by omega)).af e4,by omega,by rw[hlen];exact hcap⟩,(ah.only (e1.trans e2) x3 z1).trans e4⟩
theorem xy {q:TU}(ok:dw q.1) (k:oJ h tb q.1 q.2){r2:Nat}(hr:2<=r2/\r2<=100) (hc:8<=c2/\c2<=200) :
 aj Tryz.prog 37 #[.pointer (some ⟨tb,0,none⟩),.int .i64 (r2:Nat),.int .i64 (c2:Nat)] h (aN fun _ h'=>oJ h' tb (Gm q.1 r2 c2) q.2/\Ext (fun b=>b=tb) h h'):=by
 obtain⟨g,c,bl,kb,ks,hne,hcap⟩:=k;have htl:=kb.lt;have hlen:(Gm q.1 r2 c2).xs.length=r2*c2:=lJ _ _ _;refine bf ?_;refine aa ?_;refine xp rfl (bI rfl (Bd kb)) ?_;refine aa ?_;refine xo rfl (aG rfl (Aj ok ks hcap hr hc)) ?_;rintro _ h2 ⟨⟨g2,c2',rfl,hcap2,hg2,kS⟩,e2⟩;refine aa ?_;refine xo rfl (cC) ?_;rintro _ h3 ⟨rfl,k3,e3,z3⟩;refine aY rfl (bM rfl rfl k3 ((jw rfl))) ?_;rintro _ h4 ⟨rfl,k4,x4,z4⟩;have hgl:=kS.lt;have k4:az h4 h2.size 41 (cy r2 c2 (gI g2 (r2*c2) c2') (min q.1.row (r2-1):Nat) (min q.1.col (c2-1):Nat)):=k4;have e24:ah h2 h4:=ah.only e3 x4 (Nat.le_refl _);have e04:=e2.trans e24;refine aa ?_;refine fH rfl (by decide) ?_;have kb4:=kb.af e04;refine aa ?_;refine xp rfl (bI rfl k4.row) ?_;refine aa ?_;refine aY rfl (bM rfl rfl kb4 ((jw rfl))) ?_;rintro _ h5 ⟨rfl,k5,x5,z5⟩;refine aa ?_;refine aY rfl (b7 rfl rfl k5) ?_;rintro _ h6 ⟨rfl,k6,x6,z6⟩;refine aa ?_;have k6:az h6 tb 86 (wu r2 c2 (gI g2 (r2*c2) c2') (min q.1.row (r2-1):Nat) (min q.1.col (c2-1):Nat) q.2 q.1.sy false bl):=k6;refine aW ?_;exact⟨_,rfl,⟨g2,c2',bl,by rw[hlen];exact k6,by rw[hlen];exact((kS.af e24).ext x5 (by omega)).ext x6 (by omega),by omega,by rw[hlen];exact hcap2⟩,((j6 (av _ _:Ext (fun b=>b=tb) h h) e04).trans x5).trans x6⟩
end
end Go.Proofs.YtckomlgchbkekaaGreatDoor
