/- What the proof of the statement leans on (part 33). -/
import Derived.Shelf.Strings.Builder1
import Derived.Shelf.Strings.Builder2
import Derived.Shelf.Strings.OnBuilder
import Derived.Shelf.Small.Utf8
import Derived.Shelf.Small.Strs
import Derived.Shelf.Strings.BuilderF
import Derived.Shelf.Strings.BuilderK
import Derived.Shelf.Strings.Builder2Cap
import Derived.Shelf.Strconv.Atoi
import Derived.Shelf.Strconv.Itoa0
import Derived.Shelf.Strconv.Itoa1
import Derived.Shelf.LaysM
import Derived.Shelf.Strconv.Itoa2
import Derived.Shelf.Strconv.Itoa3
import Derived.Shelf.Strconv.AtoiErrFast
import Derived.Shelf.Strconv.ParseIntEmpty
import Derived.Shelf.Strconv.AtoiFail
import Derived.Shelf.Strconv.Clone
import Derived.Shelf.Strconv.SyntaxError
import Derived.Shelf.Strconv.ToError
import Derived.Shelf.Strconv.Lower
import Derived.Shelf.Strconv.ParseUint10
import Derived.Shelf.Strconv.ParseUint10Empty
import Derived.Shelf.Strconv.ParseUint10Any
import Derived.Shelf.Strconv.ParseInt10
import Derived.Shelf.Strconv.AtoiLong
import Derived.Shelf.Strconv.AtoiInnerAll
import Derived.Shelf.Strconv.RangeError
import Derived.Shelf.Strconv.ToErrorRange
import Derived.Shelf.Strconv.AtoiAll
import Derived.Shelf.Strings.Search1
import Derived.Shelf.Strings.Search2
import Derived.Shelf.Strings.Search3
import Derived.Shelf.Strings.Cut
import Derived.Shelf.Strings.Shaped
import Derived.Shelf.Strings.Prefix
import Derived.Shelf.Unicode.Decode
import Derived.Shelf.Bits.Mul64
import Derived.Shelf.Unicode.DecodeSlow
import Derived.Shelf.Unicode.DecodeAny
import Derived.Test.YtckomlgchbkekaaGreatDoorProg
import Derived.Test.YtckomlgchbkekaaGreatDoorQzf

namespace Go.Proofs.YtckomlgchbkekaaGreatDoor
open Go.Proofs.Tryz
open Go Go.Lw
set_option maxRecDepth 20000 set_option maxHeartbeats 4000000
section
variable {xs:List Ev}{h:ai}{O:Nat->Prop}{v:Value}
section
variable {h0 h h':ai}{tb g n:Nat}
theorem I9 {xs:List cY}(k:zA h g xs) (a m:Nat):Lw.rowAt h g (a*6) (((xs.drop a).take m).flatMap cz):=fun j v hv=>by
 have hj:(xs.flatMap cz)[a*6+j]? =some v:=by
  by_cases ha:a<=xs.length
  · have e:xs.flatMap cz=(xs.take a).flatMap cz++(((xs.drop a).take m).flatMap cz++((xs.drop a).drop m).flatMap cz):=by
     rw[<-List.flatMap_append,List.take_append_drop,<-List.flatMap_append,List.take_append_drop]
    have hl:((xs.take a).flatMap cz).length=a*6:=by rw[cZ,List.length_take,Nat.min_eq_left ha]
    rw[e,List.getElem?_append_right (by omega),hl,Nat.add_sub_cancel_left,List.getElem?_append_left (List.getElem?_eq_some_iff.1 hv).1];exact hv
  · rw[List.drop_of_length_le (by omega),List.take_nil] at hv;simp at hv
 exact k.row _ _ hj |> fun q=>by rw[Nat.zero_add] at q;exact q
theorem AY (hW:jH h){t:TM}(ok:dw t) (kS:zA h g t.xs) (hn:t.xs.length=n){r2 c2:Nat}(hr:2<=r2/\r2<=100) (hc:8<=c2/\c2<=200) :
 aj Tryz.prog 56 #[.agg (cy t.rows t.cols (qS g n) t.row t.col).toArray,.int .i64 (r2:Nat),.int .i64 (c2:Nat)] h (aN fun r h'=>(∃g2,r= .tuple #[.agg (cy r2 c2 (qS g2 (r2*c2)) (min t.row (r2-1):Nat) (min t.col (c2-1):Nat)).toArray,.int .i64 0]/\h.size<=g2/\zA h' g2 (nT t r2 c2))/\ah h h'):=by
 have t1:=ok.rows;have t2:=ok.cols;have t3:=ok.row;have t4:=ok.col;have hnn:t.rows*t.cols=n:=by rw[<-hn];exact ok.len.symm
 have hn2:n<=20000:=by rw[<-hnn];exact Nat.mul_le_mul t1.2 t2.2
 have hN2:r2*c2<=20000:=Nat.mul_le_mul hr.2 hc.2;refine bf ?_;refine aa ?_;refine xo rfl (cM) ?_;rintro _ h1 ⟨rfl,k3,e1,z1⟩;refine xo rfl (cC) ?_;rintro _ h2 ⟨rfl,k6,e2,z2⟩;have k3:az h2 h.size 41 (cy t.rows t.cols (qS g n) t.row t.col):=k3.af e2;have e02:=e1.trans e2;refine aa ?_;refine xo rfl (aG rfl (qf (hW.af e02) hr hc)) ?_;rintro _ h3 ⟨⟨g2,rfl,hg2,kN⟩,e3⟩;refine aa ?_;refine xo rfl (cC) ?_;rintro _ h4 ⟨rfl,k8,e4,z4⟩;refine aY rfl (bM rfl rfl k8 ((jw rfl))) ?_;rintro _ h5 ⟨rfl,k5,x5,z5⟩;have k5:az h5 h3.size 41 (cy r2 c2 (qS g2 (r2*c2)) 0 0):=k5;have e35:ah h3 h5:=ah.only e4 x5 (Nat.le_refl _);have e05:=(e02.trans e3).trans e35;have hg2l:=kN.lt;have hz2:=e1.size;have hz3:=e3.size;have hz5:=e35.size;have kN5:=kN.af e35;have k35:=(k3.af e3).af e35;have k65:=((k6.af e3).af e35)
 refine aU ?_;refine bJ ?_
 iterate 2 refine aI ?_
 refine BS (fun(z:Unit) (h':ai)=>ah h5 h') (fun(z:Unit)=>[(24,.bool false)]) rfl ?_ ?_
 · refine aa ?_;refine RW.aO (d:=20) (b':=false) rfl (rfl) ?_;refine xp rfl (bI rfl k35.row) ?_;refine xo rfl (aG rfl (wN (hW.af e05) t1 t2 hnn (kS.af e05) hn ok.vf (row:=t.row) (col:=t.col) ⟨by omega,by omega⟩ ⟨by omega,by omega⟩)) ?_;rintro _ h6 ⟨rfl,e6⟩;refine aa ?_;exact ef () e6 ⟨ak rfl (rfl),sb rfl⟩
 · rintro-h6 e6;have hz6:=e6.size;have k36:=k35.af e6;have k56:=k5.af e6;have k66:=k65.af e6;have kN6:=kN5.af e6;have e06:=e05.trans e6;have kS6:=kS.af e06;have hgl:=kS.lt;refine bV rfl (by decide) ?_;refine aa ?_;refine xp rfl (aA rfl (k36.cell (i:=0) rfl)) ?_;refine aa ?_;rw[show (if (t.rows:Int)<(r2:Int) then (t.rows:Int) else (r2:Int))=((min r2 t.rows:Nat):Int) by split<;>omega];generalize hmn:min r2 t.rows=mr at *;refine zB (σ:=Nat) (fun k=>[(2,.int .i64 (c2:Nat)),(1,.int .i64 (r2:Nat)),(3,.pointer (some ⟨h.size,0,none⟩)),(6,.pointer (some ⟨h1.size,0,none⟩)),(8,.pointer (some ⟨h3.size,0,none⟩)),(29,.int .i64 (mr:Nat)),(30,.int .i64 (k:Nat))]) (fun k h'=>k<=mr/\Ext (fun b=>b=g2) h6 h'/\∃ys,zA h' g2 ys/\ys.length=r2*c2/\∀i j,i<r2->j<c2->bX ys (i*c2+j)=if i<k then kX t c2 i j else cu) (fun k=>mr-k) (0) ⟨Nat.zero_le _,av _ _,_,kN6,List.length_replicate,fun i j _ _=>qU _ _⟩ ?_;rintro k g3 ⟨hk,x3,ys,ks,hyl,hya⟩ ih;refine aa ?_;refine aQ (fun hlt=>?_) (fun hlt=>?_)
   · have hkr:k<r2:=by omega
     have hkt:k<t.rows:=by omega
     have hs2:k*c2+c2<=r2*c2:=by rw[<-Nat.succ_mul];exact Nat.mul_le_mul_right _ hkr
     have hs1:k*t.cols+t.cols<=n:=by rw[<-hnn,<-Nat.succ_mul];exact Nat.mul_le_mul_right _ hkt
     have m1:(k:Int)*(c2:Int)=((k*c2:Nat):Int):=by push_cast;rfl
     have m2:((k:Int)+1)*(c2:Int)=((k*c2+c2:Nat):Int):=by rw[Int.add_mul];push_cast;omega
     have m3:(k:Int)*(t.cols:Int)=((k*t.cols:Nat):Int):=by push_cast;rfl
     have m4:((k:Int)+1)*(t.cols:Int)=((k*t.cols+t.cols:Nat):Int):=by rw[Int.add_mul];push_cast;omega
     have hres:∀j,kX t c2 k j=if j<t.cols then (if j+1=c2/\dH t.xs (k*t.cols+j)=2 then cu else bX t.xs (k*t.cols+j)) else cu:=fun j=>by
      unfold kX
      by_cases q:j<t.cols
      · rw[if_pos ⟨hkt,q⟩,if_pos q]
      · rw[if_neg (fun z=>q z.2),if_neg q]
     have hrow0:∀j,j<c2->bX ys (k*c2+j)=cu:=fun j hj=>by rw[hya k j hkr hj,if_neg (by omega)]
     have hoth:∀i j,i<r2->j<c2->i≠k->¬(k*c2<=i*c2+j/\i*c2+j<k*c2+c2):=fun i j hi hj hne z=>by
      have h1:=(pos_at (i:=i) hj).1
      have h2:(i*c2+j) / c2=k:=by
       rw[show i*c2+j=k*c2+(i*c2+j-k*c2) by omega];exact(pos_at (by omega)).1
      omega
     have k33:=k36.ext x3 (by omega);have k53:=k56.ext x3 (by omega);have kS3:=kS6.ext x3 (by omega);have hb3:Lw.rowAt g3 0 0 (cz cu):=x3.rowAt (by have:=bS hW.gb (by decide);omega) ((hW.af e06).gb);have hlx:=cZ ys;generalize hs:k*c2=s at *;generalize ha:k*t.cols=a at *;generalize hN:r2*c2=N at *
     have hp1:aP (some ⟨g2,0,none⟩) s 6 N=some ⟨g2,s*6,none⟩:=by
      unfold aP;rw[if_neg (by omega),Option.map_some,Addr.add,Nat.zero_add];split
      · rename_i e;rw[e]
      · rfl
     have hp2:aP (some ⟨g,0,none⟩) a 6 n=some ⟨g,a*6,none⟩:=by
      unfold aP;rw[if_neg (by omega),Option.map_some,Addr.add,Nat.zero_add];split
      · rename_i e;rw[e]
      · rfl
     refine aa ?_;refine xp rfl (aA rfl (k53.cell (i:=2) rfl)) ?_
     iterate 2 refine aU ?_
     refine xp rfl (an.dK rfl rfl (by rw[m1];omega)) ?_
     iterate 3 refine aU ?_
     refine xp rfl (an.dK rfl rfl (by rw[m2];omega)) ?_;refine xp rfl (an.jN underlying39 H.lu rfl rfl s m1 rfl (s+c2) m2 (by omega) (by omega)) ?_;rw[hp1,show s+c2-s=c2 by omega];refine aa ?_;obtain⟨m,hm⟩:∃m,m=min t.cols c2:=⟨_,rfl⟩
     have hzl:((t.xs.drop a).take m).length=m:=by rw[List.length_take,List.length_drop];omega
     have hzc:(((t.xs.drop a).take m).flatMap cz).length=m*6:=by rw[cZ,hzl]
     have hsrc:∀j v,(((t.xs.drop a).take m).flatMap cz)[j]? =some v->cellAt g3 ((⟨g,a*6,none⟩:Addr).add j)=some v:=fun j v hv=>by
      have:=I9 kS3 a m j v hv;unfold Addr.add;split
      · rename_i e;subst e;exact this
      · exact this
     refine xp rfl (aA rfl (k33.cell (i:=2) rfl)) ?_;refine aa ?_;refine xp rfl (aA rfl (k33.cell (i:=1) rfl)) ?_;refine xp rfl (an.dK rfl rfl (by rw[m3];omega)) ?_;refine aa ?_;refine xp rfl (aA rfl (k33.cell (i:=1) rfl)) ?_;refine xp rfl (an.dK rfl rfl (by rw[m4];omega)) ?_;refine xp rfl (an.jN underlying39 H.lu rfl rfl a m3 rfl (a+t.cols) m4 (by omega) (by omega)) ?_;refine xo rfl (aH.Bj underlying39 H.yB rfl rfl (hp2) (ks) (hsrc) ((show Nat.min (a+t.cols-a) c2=m by rw[hm,Nat.add_sub_cancel_left])) (hzc) ((by rw[hzc,hlx];omega)) ((fun v hv=>by obtain⟨x,_,hx⟩:=List.mem_flatMap.1 hv;exact qT x v hx))) ?_;rintro _ g4 ⟨rfl,k4,x4,z4⟩;have hfit:s+((t.xs.drop a).take m).length<=ys.length:=by omega
     rw[Fi rfl s hfit] at k4;have k4:zA g4 g2 (ys.take s++(t.xs.drop a).take m++ys.drop (s+((t.xs.drop a).take m).length)):=k4;have hmid:=Ja hfit
     have hyl4:(ys.take s++(t.xs.drop a).take m++ys.drop (s+((t.xs.drop a).take m).length)).length=N:=by
      rw[List.length_append,List.length_append,List.length_take,List.length_drop,hzl];omega
     generalize hzs:ys.take s++(t.xs.drop a).take m++ys.drop (s+((t.xs.drop a).take m).length)=zs at *
     have hzat:∀j,j<c2->bX zs (s+j)=if j<t.cols then bX t.xs (a+j) else cu:=fun j hj=>by
      rw[hmid (s+j),hzl]
      by_cases q:j<t.cols
      · rw[if_pos ⟨by omega,by omega⟩,if_pos q,Nat.add_sub_cancel_left,bX,bX,List.getD_eq_getElem?_getD,List.getD_eq_getElem?_getD,List.getElem?_take_of_lt (by omega),List.getElem?_drop]
      · rw[if_neg (by omega),if_neg q,hrow0 j hj]
     have hzo:∀i j,i<r2->j<c2->i≠k->bX zs (i*c2+j)=bX ys (i*c2+j):=fun i j hi hj hne=>by
      have:=hoth i j hi hj hne;rw[hmid,hzl,if_neg (by omega)]
     have x34:=x3.trans x4;have hl4:=HB k4 (i:=s+(c2-1)) (by omega);rw[show 0+(s+(c2-1))*6=s*6+(c2-1)*6 by omega] at hl4;have hlast:=hzat (c2-1) (by omega);refine bJ ?_;refine aI ?_;refine bU ?_
     iterate 3 refine aU ?_
     refine xp rfl (bT rfl rfl (c2-1) (by omega) rfl) ?_;refine aa ?_;refine xp rfl (aA rfl (hl4 1 _ rfl)) ?_;refine aa ?_
     have nx:∀(ys':List cY) (h':ai) (ρ':Env),Sub [(1,.int .i64 (r2:Nat)),(2,.int .i64 (c2:Nat)),(3,.pointer (some ⟨h.size,0,none⟩)),(6,.pointer (some ⟨h1.size,0,none⟩)),(8,.pointer (some ⟨h3.size,0,none⟩)),(29,.int .i64 (mr:Nat)),(30,.int .i64 (k:Nat))] ρ'->zA h' g2 ys'->ys'.length=N->(∀j,j<c2->bX ys' (s+j)=kX t c2 k j)->(∀i j,i<r2->j<c2->i≠k->bX ys' (i*c2+j)=bX zs (i*c2+j))->Ext (fun b=>b=g2) h6 h'->G Tryz.prog 56 f56 [.blk 1,.code [1,1,1,0,0,1,0,1,1,1],.loop [0,0,1,0,1,1,1],.blk 0,.code [1,1,1,1]] ρ' h' (aN fun r h'=>(∃g2,r= .tuple #[.agg (cy r2 c2 (qS g2 N) (min t.row (r2-1):Nat) (min t.col (c2-1):Nat)).toArray,.int .i64 0]/\h.size<=g2/\zA h' g2 (nT t r2 c2))/\ah h h'):=by
      rintro ys' g5 ρ' hsub ks' hl' h1' h2' x5';refine G.sub (ρ':=[(1,.int .i64 (r2:Nat)),(2,.int .i64 (c2:Nat)),(3,.pointer (some ⟨h.size,0,none⟩)),(6,.pointer (some ⟨h1.size,0,none⟩)),(8,.pointer (some ⟨h3.size,0,none⟩)),(29,.int .i64 (mr:Nat)),(30,.int .i64 (k:Nat))]) hsub ?_;refine aa ?_
      exact ih (k+1) ⟨by omega,x5',ys',ks',hl',fun i j hi hj=>by
       by_cases q:i=k
       · subst q;rw[hs,h1' j hj,if_pos (by omega)]
       · rw[h2' i j hi hj q,hzo i j hi hj q,hya i j hi hj]
         by_cases q2:i<k
         · rw[if_pos q2,if_pos (by omega)]
         · rw[if_neg q2,if_neg (by omega)]⟩ (by omega)
     refine aQ (fun qw=>?_) (fun qw=>?_)
     · have qw:dH zs (s+(c2-1))=2:=qw;obtain⟨L,kL,hL,hov⟩:=iI k4 hyl4;have hb4:Lw.rowAt g4 0 0 (cz cu):=x4.rowAt (by have:=bS hW.gb (by decide);omega) hb3;refine aa ?_;refine xp rfl (bI rfl hb4) ?_;refine xp rfl (bT rfl rfl (c2-1) (by omega) rfl) ?_;refine aY rfl (aH.bZ H.lu rfl rfl kL rfl (by omega) ((qT cu))) ?_;rintro _ g5 ⟨rfl,k7,x7,z7⟩;have k7:az g5 g2 58 (over L (s*6+(c2-1)*6) (cz cu)):=k7;rw[show s*6+(c2-1)*6=0+(s+(c2-1))*6 by omega,hov (s+(c2-1)) cu (by omega)] at k7;refine bJ ?_
       exact nx (zs.set (s+(c2-1)) cu) _ _ (by exact sb rfl) k7 (by rw[List.length_set];exact hyl4) (fun j hj=>by
        rw[eG,hres,hzat j hj]
        by_cases q:j=c2-1
        · subst q;rw[if_pos ⟨rfl,by omega⟩];unfold dH at qw;rw[hlast] at qw
          by_cases q2:c2-1<t.cols
          · rw[if_pos q2] at qw;rw[if_pos q2,if_pos ⟨by omega,qw⟩]
          · rw[if_neg q2]
        · rw[if_neg (by omega),if_neg (show ¬(j+1=c2/\_) by omega)]) (fun i j hi hj hne=>by
        have:=hoth i j hi hj hne;rw[eG,if_neg (by omega)]) (x34.trans x7)
     · have qw:dH zs (s+(c2-1))≠2:=qw;refine aI ?_
       exact nx zs _ _ (by exact sb rfl) k4 hyl4 (fun j hj=>by
        rw[hres,hzat j hj]
        by_cases q2:j<t.cols
        · rw[if_pos q2,if_pos q2,if_neg];rintro⟨z1,z2⟩;obtain rfl:j=c2-1:=by omega
          rw[if_pos q2] at hlast;unfold dH at qw z2;rw[hlast] at qw;exact qw z2
        · rw[if_neg q2,if_neg q2]) (fun _ _ _ _ _=>rfl) x34
   · obtain rfl:k=mr:=by omega
     have hfin:ys=nT t r2 c2:=DI hyl fun i j hi hj=>by
      rw[hya i j hi hj]
      by_cases q:i<k
      · rw[if_pos q]
      · rw[if_neg q,kX,if_neg (by omega)]
     subst hfin;have k33:=k36.ext x3 (by omega);have k53:=k56.ext x3 (by omega);have hg2h:¬g2=h3.size:=by omega
     have v1:(if (r2:Int)-1<(t.row:Int) then (r2:Int)-1 else (t.row:Int))=((min t.row (r2-1):Nat):Int):=by split<;>omega
     have v2:(if (c2:Int)-1<(t.col:Int) then (c2:Int)-1 else (t.col:Int))=((min t.col (c2-1):Nat):Int):=by split<;>omega
     refine aa ?_;refine ic 14 11 ?_;refine ax 0 ?_;refine aS 1 rfl (fun h' e=>aA rfl (e.old (k33.cell (i:=3) rfl))) ?_;refine ax 2 ?_;refine ax 3 ?_;refine ax 4 ?_;refine ax 10 ?_;refine RD.bq 5 (listed':= #[true,true,true,true,true,true,false,false,false,false,true,false,false,false]) rfl (by kernel_rfl) (by kernel_rfl) (by kernel_rfl) rfl rfl rfl (fun _=>aM (off:=4) underlying41 rfl rfl H.fu rfl) rfl ?_;refine RD.bq 7 (listed':= #[true,true,true,true,true,true,false,true,false,false,true,false,false,false]) rfl (by kernel_rfl) (by kernel_rfl) (by kernel_rfl) rfl rfl rfl (fun _=>aD rfl) rfl ?_;refine RD.bq 8 (listed':= #[true,true,true,true,true,true,false,true,true,false,true,false,false,false]) rfl (by kernel_rfl) (by kernel_rfl) (by kernel_rfl) rfl rfl rfl (fun _=>an.pQ rfl rfl ⟨by omega,by omega⟩) rfl ?_;refine RD.Mf 6 11 (li:= #[true,true,true,true,true,true,true,true,true,false,true,false,false,false]) (lj:= #[true,true,true,true,true,true,false,true,true,false,true,true,false,false]) rfl rfl (by kernel_rfl) rfl rfl rfl rfl rfl (an.jF (bn H.BC rfl (k33.cell (i:=4) rfl))) (aH.br H.fu rfl rfl k53 (by first|decide|exact of_decide_eq_true rfl|(simp;done)|(simp;omega)) rfl) rfl rfl ?_ ?_
     · rintro _ hq_ ⟨rfl,hqe_⟩;replace hqe_:=hqe_.symm;subst hqe_;refine⟨fun _=>av _ _,?_⟩;refine RD.bq 9 (listed':= #[true,true,true,true,true,true,true,true,true,true,true,false,false,false]) rfl (by kernel_rfl) (by kernel_rfl) (by kernel_rfl) rfl rfl rfl (fun _=>an.min2 rfl rfl) rfl ?_;refine eK 11 rfl (b7 rfl rfl k53) ?_;rintro _ g4 ⟨rfl,k7,x7,z7⟩;refine⟨nofun,?_⟩;refine ax 12 ?_;refine eK 13 rfl (b7 rfl rfl k7) ?_;rintro _ g5 ⟨rfl,k9,x9,z9⟩;refine⟨nofun,?_⟩;refine dP ?_;refine aa ?_;rw[v1,v2] at k9;have k9:az g5 h3.size 41 (cy r2 c2 (qS g2 (r2*c2)) (min t.row (r2-1):Nat) (min t.col (c2-1):Nat)):=k9;refine xp rfl (bI rfl k9.row) ?_;refine aY rfl (bM rfl rfl ((((k66.ext x3 (by omega)).ext x7 (by omega)).ext x9 (by omega))) ((jw rfl))) ?_;rintro _ g6 ⟨rfl,k10,x10,z10⟩;refine aa ?_;have k10:az g6 h1.size 41 (cy r2 c2 (qS g2 (r2*c2)) (min t.row (r2-1):Nat) (min t.col (c2-1):Nat)):=k10;refine fG (fT rfl k10.row (kZ fF)) ?_;exact⟨_,rfl,⟨g2,rfl,by omega,((ks.ext x7 (by omega)).ext x9 (by omega)).ext x10 (by omega)⟩,ah.only (ah.only (ah.only (ah.only e06 x3 (by omega)) x7 (by omega)) x9 (by omega)) x10 (by omega)⟩
     · rintro _ g4 ⟨rfl,k7,x7,z7⟩;refine⟨nofun,?_⟩;have hM:¬Array.size g3<=h.size:=by have:=k33.lt;omega
       refine aS 6 rfl (fun h' e=>aA rfl (e.cell hM ((k33.ext x7 (by omega)).cell (i:=4) rfl))) ?_;refine ax 9 ?_;refine ax 12 ?_;refine eK 13 rfl (b7 rfl rfl k7) ?_;rintro _ g5 ⟨rfl,k9,x9,z9⟩;refine⟨nofun,?_⟩;refine dP ?_;refine aa ?_;rw[v1,v2] at k9;have k9:az g5 h3.size 41 (cy r2 c2 (qS g2 (r2*c2)) (min t.row (r2-1):Nat) (min t.col (c2-1):Nat)):=k9;refine xp rfl (bI rfl k9.row) ?_;refine aY rfl (bM rfl rfl ((((k66.ext x3 (by omega)).ext x7 (by omega)).ext x9 (by omega))) ((jw rfl))) ?_;rintro _ g6 ⟨rfl,k10,x10,z10⟩;refine aa ?_;have k10:az g6 h1.size 41 (cy r2 c2 (qS g2 (r2*c2)) (min t.row (r2-1):Nat) (min t.col (c2-1):Nat)):=k10;refine fG (fT rfl k10.row (kZ fF)) ?_;exact⟨_,rfl,⟨g2,rfl,by omega,((ks.ext x7 (by omega)).ext x9 (by omega)).ext x10 (by omega)⟩,ah.only (ah.only (ah.only (ah.only e06 x3 (by omega)) x7 (by omega)) x9 (by omega)) x10 (by omega)⟩
end
section
variable {h0 h h':ai}{tb g n:Nat}
theorem zN (hW:jH h){q:TU}(ok:dw q.1) (k:HW h tb g n q){r2 c2:Nat}(hr:2<=r2/\r2<=100) (hc:8<=c2/\c2<=200) :
 aj Tryz.prog 33 #[.pointer (some ⟨tb,0,none⟩),.int .i64 (r2:Nat),.int .i64 (c2:Nat)] h (aN fun _ h'=>(∃g2,h.size<=g2/\HW h' tb g2 (r2*c2) (Gm q.1 r2 c2,q.2))/\Ext (fun b=>b=tb) h h'):=by
 obtain⟨bl,kb⟩:=k.b;have htl:=kb.lt;refine bf ?_;refine aa ?_;refine xo rfl (aG rfl (jK k)) ?_;rintro _ h1 ⟨rfl,hh1⟩;refine aa ?_;subst hh1;refine bV rfl (by decide) ?_
 have kf:Lw.rowAt h1 tb (0+1) (cy q.1.rows q.1.cols (qS g n) q.1.row q.1.col):=fun j v hv=>by
  match j,hv with
  | 0,hv=>cases hv;exact kb.cell (i:=1) rfl
  | 1,hv=>cases hv;exact kb.cell (i:=2) rfl
  | 2,hv=>cases hv;exact kb.cell (i:=3) rfl
  | 3,hv=>cases hv;exact kb.cell (i:=4) rfl
  | 4,hv=>cases hv;exact kb.cell (i:=5) rfl
 refine aa ?_;refine xp rfl (bI rfl kf) ?_;refine aa ?_;refine xo rfl (aG rfl (AY hW ok k.s k.n hr hc)) ?_;rintro _ h2 ⟨⟨g2,rfl,hg2,kS⟩,e2⟩;refine aa ?_;refine xo rfl (cC) ?_;rintro _ h3 ⟨rfl,k3,e3,z3⟩;refine aY rfl (bM rfl rfl k3 ((jw rfl))) ?_;rintro _ h4 ⟨rfl,k4,x4,z4⟩;have hgl:=kS.lt;have k4:az h4 h2.size 41 (cy r2 c2 (qS g2 (r2*c2)) (min q.1.row (r2-1):Nat) (min q.1.col (c2-1):Nat)):=k4;have e24:ah h2 h4:=ah.only e3 x4 (Nat.le_refl _);refine aa ?_;refine bV rfl (by decide) ?_;have kb4:=(kb.af e2).af e24;refine aa ?_;refine xp rfl (bI rfl k4.row) ?_;refine aa ?_;refine aY rfl (bM rfl rfl kb4 ((jw rfl))) ?_;rintro _ h5 ⟨rfl,k5,x5,z5⟩;refine aa ?_;refine aY rfl (b7 rfl rfl k5) ?_;rintro _ h6 ⟨rfl,k6,x6,z6⟩;refine aa ?_;have k6:az h6 tb 113 (qB r2 c2 g2 (r2*c2) (min q.1.row (r2-1):Nat) (min q.1.col (c2-1):Nat) (nW q.2) (oI q.2) q.1.sy false bl):=k6;refine aW ?_;have hz:=e2.size;exact⟨_,rfl,⟨g2,hg2,⟨⟨bl,k6⟩,((kS.af e24).ext x5 (by omega)).ext x6 (by omega),lJ _ _ _,by show tb≠g2;omega⟩⟩,(((e2.trans e24).mono fun _ _ q=>q.elim).trans x5).trans x6⟩
end
def Ii (q:TU) (e:Ev):TU:=if e.1=1 then cx q e.2.1 else if e.1=2 then (Gm q.1 e.2.2.1.toNat e.2.2.2.toNat,q.2) else q
def cK (rows cols:Nat) (xs:List Ev):TU:=xs.foldl Ii (uH rows cols,[])
def jT (rows cols k:Int) (xs:List Ev):Prop:=iM rows cols xs=true/\0<=k/\k<=xs.length
instance (rows cols k:Int) (xs:List Ev):Decidable (jT rows cols k xs):=by unfold jT;infer_instance
theorem qP {a b:Int}(h:fL a b=true):(2<=a.toNat/\a.toNat<=100)/\(8<=b.toNat/\b.toNat<=200)/\(a.toNat:Int)=a/\(b.toNat:Int)=b:=by
 have:=of_decide_eq_true h;exact⟨by omega,by omega,by omega,by omega⟩
theorem oy (hW:jH h) (hv:aR mu h O v xs) (hxl:xs.length<=12) (hx2:∀e∈xs,e.2.1.length<=200) (rows cols k:Int) :
 aj Tryz.prog 13 #[.agg (gL rows cols v).toArray,.int .i64 k] h (aN fun r h'=>(jT rows cols k xs/\(∃b c n,r= .tuple #[.agg (cy (cK rows.toNat cols.toNat (xs.take k.toNat)).1.rows (cK rows.toNat cols.toNat (xs.take k.toNat)).1.cols (.slice (some ⟨b,0,none⟩) n c) (cK rows.toNat cols.toNat (xs.take k.toNat)).1.row (cK rows.toNat cols.toNat (xs.take k.toNat)).1.col).toArray,.int .i64 0]/\n<=c/\(cK rows.toNat cols.toNat (xs.take k.toNat)).1.xs.length=n/\dw (cK rows.toNat cols.toNat (xs.take k.toNat)).1/\Lw.rowAt h' b 0 ((cK rows.toNat cols.toNat (xs.take k.toNat)).1.xs.flatMap cz))\/¬jT rows cols k xs/\r= .tuple #[.agg (cy 0 0 (.slice none 0 0) 0 0).toArray,.int .i64 2])/\ah h h'):=by
 obtain⟨va,vn,vc,rfl,hvs⟩:=id hv.open;have hvl:xs.length=vn:=hvs.len;subst hvl;refine bf ?_;refine aa ?_;refine xo rfl (cM) ?_;rintro _ h1 ⟨rfl,k1,e1,z1⟩;refine xo rfl (cC) ?_;rintro _ h2 ⟨rfl,k2,e2,z2⟩;have k1:az h2 h.size 24 (gL rows cols (.slice va xs.length vc)):=k1.af e2;have k2:az h2 h1.size 41 (cy 0 0 (.slice none 0 0) 0 0):=k2;have e02:=e1.trans e2;refine aU ?_;refine bJ ?_
 iterate 2 refine aI ?_
 refine BS (fun(_u:Unit) (h':ai)=>ah h2 h') (fun(_u:Unit)=>[(23,.bool (!decide (jT rows cols k xs)))]) rfl ?_ ?_
 · refine xp rfl (bI rfl k1.row) ?_;refine xo rfl (aG rfl (iu (hv.af e02) rows cols)) ?_;rintro _ h3 ⟨rfl,e3⟩
   rcases Bool.eq_false_or_eq_true (iM rows cols xs) with hck|hck
   · rw[hck];refine aa ?_;refine RW.aO (d:=13) (b':=false) rfl ((by decide)) ?_;refine aa ?_;refine dx 17 (fun g1=>?_) (fun g1=>?_)
     · have g1:=of_decide_eq_true g1;refine aa ?_;exact ef () e3 ⟨ak rfl (by rw[decide_eq_false (fun q:jT rows cols k xs=>by have:=q.2.1;omega)];rfl),sb rfl⟩
     · have g1:=of_decide_eq_false g1;refine aa ?_;refine xp rfl (aA rfl ((k1.af e3).cell (i:=2) rfl)) ?_;refine aa ?_;exact ef () e3 ⟨ak rfl (by rw[<-decide_not,decide_eq_decide];exact⟨fun q z=>by have:=z.2.2;omega,fun q=>by by_cases z:(xs.length:Int)<k;exact z;exact absurd ⟨hck,by omega,by omega⟩ q⟩),sb rfl⟩
   · rw[hck];refine aa ?_;refine RW.aO (d:=13) (b':=true) rfl ((by decide)) ?_;refine aa ?_;exact ef () e3 ⟨ak rfl (by rw[decide_eq_false (fun q:jT rows cols k xs=>by have:=q.1;rw[hck] at this;cases this)];rfl),sb rfl⟩
 · rintro _ h3 e3;have k13:=k1.af e3;have k23:=k2.af e3;have z3:=e3.size;have z2:=e1.size;have e03:=e02.trans e3
   by_cases hok:jT rows cols k xs
   · rw[decide_eq_true hok];refine bV rfl (by decide) ?_;obtain⟨hck,hk0,hkl⟩:=id hok;unfold iM at hck;rw[Bool.and_eq_true] at hck;obtain⟨r1,c1,er,ec⟩:=qP hck.1;have hall:=List.all_eq_true.1 hck.2;obtain⟨m,hm⟩:∃m:Nat,k=m:=⟨k.toNat,by omega⟩
     subst hm;rw[Int.toNat_natCast];have htn:=zQ (hW.af e03) r1 c1;rw[er,ec] at htn;refine aa ?_;refine xp rfl (aA rfl (k13.cell (i:=0) rfl)) ?_;refine aa ?_;refine xp rfl (aA rfl (k13.cell (i:=1) rfl)) ?_;refine xo rfl (aG rfl htn) ?_;rintro _ h4 ⟨⟨tb,tg,rfl,htb,htg,kt⟩,e4⟩;have k14:=k13.af e4;have k24:=k23.af e4;have z4:=e4.size;have hvle:=hvs.le;refine aa ?_;refine bV rfl (by decide) ?_;refine aa ?_;refine xp rfl (aA rfl (k14.cell (i:=2) rfl)) ?_;refine aa ?_;refine xp rfl (an.ie underlying22 H.Mk rfl rfl m rfl (by omega)) ?_
     have hp:aP va 0 4 vc=va:=by
      unfold aP;split
      · rfl
      · cases va<;>simp[Addr.add]
     rw[hp];have hW3:=hW.af e03;obtain⟨pl,hpl⟩:∃pl:Nat->TU,pl=fun i=>(xs.take i).foldl Ii (uH rows.toNat cols.toNat,[]):=⟨_,rfl⟩
     have hpl0:pl 0=(uH rows.toNat cols.toNat,[]):=by rw[hpl];rfl
     have hplm:cK rows.toNat cols.toNat (xs.take m)=pl m:=by rw[hpl];rfl
     rw[hplm];have k44:HW h4 tb tg (rows.toNat*cols.toNat) (pl 0):=by rw[hpl0];exact kt
     have hok0:dw (pl 0).1/\vw (pl 0).2/\(pl 0).2.length<=200*0:=by rw[hpl0];exact⟨GC r1 c1,fun q=>by simp at q,Nat.le_refl _⟩
     refine aa ?_;refine zB (σ:=Nat) (fun i=>[(4,.pointer (some ⟨h1.size,0,none⟩)),(5,.int .i64 0),(6,.pointer (some ⟨tb,0,none⟩)),(40,.slice va m vc),(41,.int .i64 (m:Nat)),(42,.int .i64 (i:Nat))]) (fun i g=>i<=m/\(∃tg n,h3.size<=tg/\HW g tb tg n (pl i))/\dw (pl i).1/\vw (pl i).2/\(pl i).2.length<=200*i/\ah h3 g) (fun i=>m-i) (0) ⟨Nat.zero_le _,⟨tg,_,htg,k44⟩,hok0.1,hok0.2.1,hok0.2.2,e4⟩ ?_;rintro i g1 ⟨hi,⟨tg1,n1,htg1,k1t⟩,okt,oku,hul,x1⟩ ih;refine aa ?_;refine aQ (fun hlt=>?_) (fun hlt=>?_)
     · have hil:i<xs.length:=by omega
       obtain⟨b,o,x,ha,_,hx,hrow⟩:=(hv.af (e03.trans x1)).open_slice.fC (i:=i) hil;have hpn:pl (i+1)=Ii (pl i) x:=by rw[hpl];show (xs.take (i+1)).foldl Ii _=_;rw[List.take_add_one,hx,List.foldl_append];rfl
       have hxm:=hall x (List.mem_of_getElem? hx);have hxt:=hx2 x (List.mem_of_getElem? hx)
       iterate 4 refine aI ?_
       refine bU ?_;refine xp rfl (bT rfl rfl i rfl ha) ?_;refine xp rfl (bI rfl hrow) ?_;refine xo rfl (cC) ?_;rintro _ g2 ⟨rfl,k5,e5,z5⟩;refine aY rfl (bM rfl rfl k5 ((Ke x))) ?_;rintro _ g3 ⟨rfl,k6,x6,z6⟩;have k6:az g3 g1.size 49 (jy x):=k6;have e13:ah g1 g3:=ah.only e5 x6 (Nat.le_refl _);have x3:ah h3 g3:=x1.trans e13;have k3t:HW g3 tb tg1 n1 (pl i):=kF.af k1t e13;refine aa ?_;refine xp rfl (aA rfl (k6.cell (i:=0) rfl)) ?_;refine aa ?_
       have nx:∀  (h':ai) (ρ':Env),Sub [(4,.pointer (some ⟨h1.size,0,none⟩)),(5,.int .i64 0),(6,.pointer (some ⟨tb,0,none⟩)),(40,.slice va m vc),(41,.int .i64 (m:Nat)),(42,.int .i64 (i:Nat))] ρ'->(∃tg n,h3.size<=tg/\HW h' tb tg n (pl (i+1)))->dw (pl (i+1)).1->vw (pl (i+1)).2->(pl (i+1)).2.length<=200*(i+1)->ah h3 h'->G Tryz.prog 13 Tryz.f13 [.blk 1,.code [1,1,1,0,0,1,0,1,1,1,1],.loop [0,0,1,0,1,1,1,1],.blk 0,.code [1,1,1,1,1]] ρ' h' (aN fun r h'=>(jT rows cols m xs/\(∃b c n,r= .tuple #[.agg (cy (pl m).1.rows (pl m).1.cols (.slice (some ⟨b,0,none⟩) n c) (pl m).1.row (pl m).1.col).toArray,.int .i64 0]/\n<=c/\(pl m).1.xs.length=n/\dw (pl m).1/\Lw.rowAt h' b 0 ((pl m).1.xs.flatMap cz))\/¬jT rows cols m xs/\r= .tuple #[.agg (cy 0 0 (.slice none 0 0) 0 0).toArray,.int .i64 2])/\ah h h'):=by
        rintro g5 ρ' hsub a1 a2 a3 a4 a5;refine G.sub (ρ':=[(4,.pointer (some ⟨h1.size,0,none⟩)),(5,.int .i64 0),(6,.pointer (some ⟨tb,0,none⟩)),(40,.slice va m vc),(41,.int .i64 (m:Nat)),(42,.int .i64 (i:Nat))]) hsub ?_;refine aa ?_;exact ih (i+1) ⟨by omega,a1,a2,a3,a4,a5⟩
       unfold Ii at hpn;refine aQ (fun qo=>?_) (fun qo=>?_)
       · rw[if_pos qo] at hpn;refine aa ?_;refine xp rfl (aA rfl (k6.cell (i:=1) rfl)) ?_;refine xo rfl (aG rfl (ux hW3 x3 htg1 htb okt oku k3t (by omega))) ?_;rintro _ g4 ⟨k7,ok7,ou7,ul7,x7⟩;refine bJ ?_;refine aI ?_;exact nx _ _ (by exact sb rfl) ⟨tg1,n1,htg1,by rw[hpn];exact k7⟩ (by rw[hpn];exact ok7) (by rw[hpn];exact ou7) (by rw[hpn];omega) (jx x3 x7 htb htg1)
       · rw[if_neg qo] at hpn;refine aa ?_;refine aQ (fun qs=>?_) (fun qs=>?_)
         · rw[if_pos qs] at hpn
           have hms:fL x.2.2.1 x.2.2.2=true:=by
            unfold fM at hxm;rw[if_neg qo,if_pos qs,Bool.and_eq_true] at hxm;exact hxm.2
           obtain⟨r2,c2,er2,ec2⟩:=qP hms;have hrs:=zN (hW3.af x3) okt k3t r2 c2;rw[er2,ec2] at hrs;have zx3:=x3.size;refine aa ?_;refine xp rfl (aA rfl (k6.cell (i:=2) rfl)) ?_;refine aa ?_;refine xp rfl (aA rfl (k6.cell (i:=3) rfl)) ?_;refine xo rfl (aG rfl hrs) ?_;rintro _ g4 ⟨⟨tg2,htg2,k7⟩,x7⟩;refine bJ ?_;refine aI ?_;exact nx _ _ (by exact sb rfl) ⟨tg2,_,by omega,by rw[hpn];exact k7⟩ (by rw[hpn];exact Gl okt r2 c2) (by rw[hpn];exact oku) (by rw[hpn];show (pl i).2.length<=_;omega) (ah.only x3 x7 htb)
         · rw[if_neg qs] at hpn
           iterate 2 refine aI ?_
           exact nx _ _ (by exact sb rfl) ⟨tg1,n1,htg1,by rw[hpn];exact k3t⟩ (by rw[hpn];exact okt) (by rw[hpn];exact oku) (by rw[hpn];omega) x3
     · obtain rfl:i=m:=by omega
       have k2g:=k23.af x1;have zx1:=x1.size;refine aa ?_;refine xo rfl (aG rfl (uz okt k1t)) ?_;rintro _ g2 ⟨⟨b4,c4,rfl,hc4,kr4⟩,e5⟩;refine aY rfl (bM rfl rfl ((k2g.af e5)) ((jw rfl))) ?_;rintro _ g3 ⟨rfl,k6,x6,z6⟩;refine aa ?_;have k6:az g3 h1.size 41 (cy (pl i).1.rows (pl i).1.cols (.slice (some ⟨b4,0,none⟩) n1 c4) (pl i).1.row (pl i).1.col):=k6;refine fG (fT rfl k6.row (kZ fF)) ?_
       have hne:¬b4=h1.size:=fun q=>by
        have q1:=jA kr4 (i:=0) (by have:=okt.small k1t.n;rw[k1t.n];omega) 0 _ rfl;have q2:=(k2g.af e5).cell (i:=0) rfl;rw[q] at q1;have:=Option.some.inj (q1.symm.trans q2);cases this
       exact⟨_,rfl,.inl ⟨hok,b4,c4,n1,rfl,hc4,k1t.n,okt,x6.rowAt hne kr4⟩,ah.only ((e03.trans x1).trans e5) x6 (by omega)⟩
   · rw[decide_eq_false hok];refine fH rfl (by decide) ?_;refine aa ?_;refine xp rfl (au (H.Ks ) rfl) ?_;refine aY rfl (bM rfl rfl k23 ((jw rfl))) ?_;rintro _ g2 ⟨rfl,k6,x6,z6⟩;refine aa ?_;have k6:az g2 h1.size 41 (cy 0 0 (.slice none 0 0) 0 0):=k6;refine fG (fT rfl k6.row (kZ fF)) ?_;exact⟨_,rfl,.inr ⟨hok,rfl⟩,ah.only e03 x6 (by omega)⟩
theorem nQ (a b:Int):aj Tryz.prog 29 #[.int .i64 a,.int .i64 b] h (aN fun r h'=>r= .bool (fL a b)/\h'=h):=by
 unfold fL;refine bf ?_;refine aI ?_;refine bU ?_;refine aU ?_;refine bJ ?_;refine aI ?_;refine dM [(4,.bool (decide (2<=a/\a<=100/\8<=b/\b<=200)))] rfl ?_ ?_
 · refine aa ?_;refine dx 7 (fun g1=>?_) (fun g1=>?_)
   · have h1:=of_decide_eq_true g1;refine aa ?_;refine dx 11 (fun g2=>?_) (fun g2=>?_)
     · have h2:=of_decide_eq_true g2;refine aa ?_;refine dx 15 (fun g3=>?_) (fun g3=>?_)
       · have h3:=of_decide_eq_true g3;refine aa ?_;exact aL rfl ⟨ak rfl (by exact decide_eq_decide.2 (by omega)),sb rfl⟩
       · refine aa ?_;exact aL rfl ⟨ak rfl (by have:=of_decide_eq_false g3;exact(decide_eq_false (by omega)).symm),sb rfl⟩
     · refine aa ?_;exact aL rfl ⟨ak rfl (by have:=of_decide_eq_false g2;exact(decide_eq_false (by omega)).symm),sb rfl⟩
   · refine aa ?_;exact aL rfl ⟨ak rfl (by have:=of_decide_eq_false g1;exact(decide_eq_false (by omega)).symm),sb rfl⟩
 · refine aW ?_;exact⟨_,rfl,rfl,rfl⟩
theorem A7:Tryz.prog.underlying 59=some (.struct (Tryz.prog.fieldsOf 59)):=by kernel_rfl
theorem DB:Tryz.prog.stoodInHeld 59=false:=by kernel_rfl
theorem DS:Tryz.prog.eqGuardType Tryz.prog.depth 59=false:=by kernel_rfl
theorem Kc (x y:Ev) (w:World):(Op.eqFields 9999 (jy x).toArray (jy y).toArray (Tryz.prog.fieldsOf 59).toList).run Tryz.prog w= .ok (decide (x=y)) w :=
 Nb ⟨_,_,_,_,rfl,⟨by decide,rfl,rfl⟩,⟨by decide,rfl,rfl⟩,⟨by decide,rfl,rfl⟩,⟨by decide,rfl,rfl⟩⟩ x y w
theorem jS (hv:aR mu h O v xs) (rows cols:Int):aj Tryz.prog 10 #[.agg (gL rows cols v).toArray] h (aN fun r h'=>r= .int .i64 (if iM rows cols xs then 0 else 2)/\ah h h'):=by
 obtain⟨va,vn,vc,rfl,hvs⟩:=id hv.open;have hvl:xs.length=vn:=hvs.len;subst hvl;have hvm:=hvs.cap;have hvc:=hvs.le;simp only[maxLen] at hvm;unfold iM;refine bf ?_;refine aa ?_;refine xo rfl (cM) ?_;rintro _ h1 ⟨rfl,k1,e1,z1⟩;have k1:az h1 h.size 29 (gL rows cols (.slice va xs.length vc)):=k1;refine aa ?_;refine xp rfl (aA rfl (k1.cell (i:=0) rfl)) ?_;refine aa ?_;refine xp rfl (aA rfl (k1.cell (i:=1) rfl)) ?_;refine xo rfl (aG rfl (nQ rows cols)) ?_;rintro _ h2 ⟨rfl,hh2⟩;subst hh2;refine aa ?_;refine zB (σ:=Nat×Bool) (fun q=>[(1,.pointer (some ⟨h.size,0,none⟩)),(3,.bool q.2),(4,.int .i64 (q.1:Nat))]) (fun q g=>q.1<=xs.length/\q.2=(fL rows cols && (xs.take q.1).all fM)/\ah h2 g) (fun q=>xs.length-q.1) ((0,fL rows cols)) ⟨Nat.zero_le _,by simp,av _ _⟩ ?_;rintro⟨i,B⟩ g ⟨hi,hB,eg⟩ ih
 try dsimp only
 dsimp only at hi hB;have k1g:=k1.af eg;refine aa ?_;refine xp rfl (aA rfl (k1g.cell (i:=2) rfl)) ?_;refine aa ?_;refine aQ (fun hlt=>?_) (fun hlt=>?_)
 · have hil:i<xs.length:=by omega
   obtain⟨b,o,x,ha,_,hx,hrow⟩:=(hvs.mv (Mv.af (e1.trans eg))).fC hil;have htk:(fL rows cols && (xs.take (i+1)).all fM)=(B && fM x):=by rw[hB,List.take_add_one,hx,List.all_append,<-Bool.and_assoc];simp
   refine aa ?_;refine xp rfl (aA rfl (k1g.cell (i:=2) rfl)) ?_;refine aU ?_;refine xp rfl (bT rfl rfl i rfl ha) ?_;refine xp rfl (bI rfl hrow) ?_;refine xo rfl (cC) ?_;rintro _ g2 ⟨rfl,k5,e5,z5⟩;refine aY rfl (bM rfl rfl k5 ((Ke x))) ?_;rintro _ g3 ⟨rfl,k6,x6,z6⟩;have k6:az g3 g.size 59 (jy x):=k6;have eg3:ah h2 g3:=ah.only (eg.trans e5) x6 eg.size;refine aa ?_;refine xp rfl (aA rfl (k6.cell (i:=0) rfl)) ?_;refine aa ?_
   have nx:∀(B':Bool) (h':ai) (ρ':Env),Sub [(1,.pointer (some ⟨h.size,0,none⟩)),(3,.bool B'),(4,.int .i64 (i:Nat))] ρ'->B'=(B && fM x)->ah h2 h'->G Tryz.prog 10 f10 [.blk 1,.code [1,1,0,0,1,0,1,1],.loop [0,0,1,0,1,1],.blk 0,.code [1,1,1]] ρ' h' (aN fun r h'=>r= .int .i64 (if (fL rows cols && xs.all fM)=true then 0 else 2)/\ah h h'):=by
    rintro B' g4 ρ' hsub hB' e4;refine G.sub (ρ':=[(1,.pointer (some ⟨h.size,0,none⟩)),(3,.bool B'),(4,.int .i64 (i:Nat))]) hsub ?_;refine aa ?_;exact ih (i+1,B') ⟨hil,by show B'=_;rw[htk,hB'],e4⟩
   obtain⟨X,hX⟩:∃X,fM x=X:=⟨_,rfl⟩
   rw[hX] at nx;unfold fM at hX;refine aQ (fun q1=>?_) (fun q1=>?_)
   · rw[if_pos q1] at hX;refine dM [(3,.bool (B && X))] rfl ?_ ?_
     · refine aa ?_;refine dx 34 (fun gB=>?_) (fun gB=>?_)
       · rw[gB,Bool.true_and,<-hX];refine aa ?_;refine xp rfl (aA rfl (k6.cell (i:=1) rfl)) ?_;refine aa ?_;refine dx 39 (fun g1=>?_) (fun g1=>?_)
         · have g1:=of_decide_eq_true g1;refine aa ?_;refine xp rfl (aA rfl (k6.cell (i:=2) rfl)) ?_;refine aa ?_;refine dx 44 (fun g2=>?_) (fun g2=>?_)
           · have g2:=of_decide_eq_true g2;refine aa ?_;refine xp rfl (aA rfl (k6.cell (i:=3) rfl)) ?_;refine aa ?_;exact aL rfl ⟨ak rfl (by rw[decide_eq_true (show x.2.1≠[] from fun q=>g1 ((lV _).2 q)),decide_eq_true g2];rfl),sb rfl⟩
           · have g2:=of_decide_eq_false g2;refine aa ?_;exact aL rfl ⟨ak rfl (by rw[decide_eq_false g2];simp),sb rfl⟩
         · have g1:=of_decide_eq_false g1;refine aa ?_;exact aL rfl ⟨ak rfl (by rw[decide_eq_false (show ¬x.2.1≠[] from fun q=>g1 fun q2=>q ((lV _).1 q2))];rfl),sb rfl⟩
       · rw[gB];refine aa ?_;exact aL rfl ⟨ak rfl (rfl),sb rfl⟩
     · refine aI ?_;exact nx (B && X) _ _ (by exact sb rfl) rfl eg3
   · rw[if_neg q1] at hX;refine aa ?_;refine aQ (fun q2=>?_) (fun q2=>?_)
     · rw[if_pos q2] at hX;refine BS (fun(_u:Unit) (h':ai)=>h'=g3) (fun(_u:Unit)=>[(3,.bool (B && X))]) rfl ?_ ?_
       · refine aa ?_;refine dx 52 (fun gB=>?_) (fun gB=>?_)
         · rw[gB,Bool.true_and,<-hX];refine aa ?_;refine xp rfl (aA rfl (k6.cell (i:=1) rfl)) ?_;refine aa ?_;refine dx 57 (fun g1=>?_) (fun g1=>?_)
           · have g1:=of_decide_eq_true g1;refine aa ?_;refine xp rfl (aA rfl (k6.cell (i:=2) rfl)) ?_;refine aa ?_;refine xp rfl (aA rfl (k6.cell (i:=3) rfl)) ?_;refine xo rfl (aG rfl (nQ _ _)) ?_;rintro _ h2' ⟨rfl,hh2⟩;refine aa ?_;subst hh2;exact ef () rfl ⟨ak rfl (by rw[decide_eq_true ((lV _).1 g1)];rfl),sb rfl⟩
           · have g1:=of_decide_eq_false g1;refine aa ?_;exact ef () rfl ⟨ak rfl (by rw[decide_eq_false (fun q=>g1 ((lV _).2 q))];rfl),sb rfl⟩
         · rw[gB];refine aa ?_;exact ef () rfl ⟨ak rfl (rfl),sb rfl⟩
       · rintro-h3 rfl;refine aI ?_;exact nx (B && X) _ _ (by exact sb rfl) rfl eg3
     · rw[if_neg q2] at hX;refine dM [(3,.bool (B && X))] rfl ?_ ?_
       · refine aa ?_;refine dx 26 (fun gB=>?_) (fun gB=>?_)
         · rw[gB,Bool.true_and,<-hX];refine xp rfl (bI rfl k6.row) ?_;refine xp rfl (au (H.Lj _) rfl) ?_;refine xp rfl (an.yy A7 DB DS rfl rfl (Kc x pN)) ?_;refine aa ?_;exact aL rfl ⟨ak rfl (rfl),sb rfl⟩
         · rw[gB];refine aa ?_;exact aL rfl ⟨ak rfl (rfl),sb rfl⟩
       · refine aI ?_;exact nx (B && X) _ _ (by exact sb rfl) rfl eg3
 · obtain rfl:i=xs.length:=by omega
   rw[List.take_length] at hB;rw[<-hB];refine aa ?_;cases B
   · refine fH rfl (by decide) ?_;refine aa ?_;refine aW ?_;exact⟨_,rfl,rfl,e1.trans eg⟩
   · refine bV rfl (by decide) ?_;refine aa ?_;refine aW ?_;exact⟨_,rfl,rfl,e1.trans eg⟩
theorem xE (hv:aR mu h O v xs) (hxl:xs.length<=12) (hx2:∀e∈xs,e.2.1.length<=200) (rows cols k:Int) :
 aj Tryz.prog 14 #[.agg (gL rows cols v).toArray,.int .i64 k] h (aN fun r h'=>(jT rows cols k xs/\(∃b c,r= .tuple #[.agg (cy (cK rows.toNat cols.toNat (xs.take k.toNat)).1.rows (cK rows.toNat cols.toNat (xs.take k.toNat)).1.cols (gI b (cK rows.toNat cols.toNat (xs.take k.toNat)).1.xs.length c) (cK rows.toNat cols.toNat (xs.take k.toNat)).1.row (cK rows.toNat cols.toNat (xs.take k.toNat)).1.col).toArray,.int .i64 0]/\Lw.rowAt h' b 0 ((cK rows.toNat cols.toNat (xs.take k.toNat)).1.xs.flatMap cz))\/¬jT rows cols k xs/\r= .tuple #[.agg (cy 0 0 (.slice none 0 0) 0 0).toArray,.int .i64 2])/\ah h h'):=by
 obtain⟨va,vn,vc,rfl,hvs⟩:=id hv.open;have hvl:xs.length=vn:=hvs.len;subst hvl;refine bf ?_;refine aa ?_;refine xo rfl (cM) ?_;rintro _ h1 ⟨rfl,k1,e1,z1⟩;refine xo rfl (cC) ?_;rintro _ h2 ⟨rfl,k2,e2,z2⟩;have k1:az h2 h.size 29 (gL rows cols (.slice va xs.length vc)):=k1.af e2;have k2:az h2 h1.size 41 (cy 0 0 (.slice none 0 0) 0 0):=k2;have e02:=e1.trans e2;refine aU ?_;refine bJ ?_
 iterate 2 refine aI ?_
 refine BS (fun(_u:Unit) (h':ai)=>ah h2 h') (fun(_u:Unit)=>[(23,.bool (!decide (jT rows cols k xs)))]) rfl ?_ ?_
 · refine xp rfl (bI rfl k1.row) ?_;refine xo rfl (aG rfl (jS (hv.af e02) rows cols)) ?_;rintro _ h3 ⟨rfl,e3⟩
   rcases Bool.eq_false_or_eq_true (iM rows cols xs) with hck|hck
   · rw[hck];refine aa ?_;refine RW.aO (d:=13) (b':=false) rfl ((by decide)) ?_;refine aa ?_;refine dx 17 (fun g1=>?_) (fun g1=>?_)
     · have g1:=of_decide_eq_true g1;refine aa ?_;exact ef () e3 ⟨ak rfl (by rw[decide_eq_false (fun q:jT rows cols k xs=>by have:=q.2.1;omega)];rfl),sb rfl⟩
     · have g1:=of_decide_eq_false g1;refine aa ?_;refine xp rfl (aA rfl ((k1.af e3).cell (i:=2) rfl)) ?_;refine aa ?_;exact ef () e3 ⟨ak rfl (by rw[<-decide_not,decide_eq_decide];exact⟨fun q z=>by have:=z.2.2;omega,fun q=>by by_cases z:(xs.length:Int)<k;exact z;exact absurd ⟨hck,by omega,by omega⟩ q⟩),sb rfl⟩
   · rw[hck];refine aa ?_;refine RW.aO (d:=13) (b':=true) rfl ((by decide)) ?_;refine aa ?_;exact ef () e3 ⟨ak rfl (by rw[decide_eq_false (fun q:jT rows cols k xs=>by have:=q.1;rw[hck] at this;cases this)];rfl),sb rfl⟩
 · rintro _ h3 e3;have k13:=k1.af e3;have k23:=k2.af e3;have z3:=e3.size;have z2:=e1.size;have e03:=e02.trans e3
   by_cases hok:jT rows cols k xs
   · rw[decide_eq_true hok];refine bV rfl (by decide) ?_;obtain⟨hck,hk0,hkl⟩:=id hok;unfold iM at hck;rw[Bool.and_eq_true] at hck;obtain⟨r1,c1,er,ec⟩:=qP hck.1;have hall:=List.all_eq_true.1 hck.2;obtain⟨m,hm⟩:∃m:Nat,k=m:=⟨k.toNat,by omega⟩
     subst hm;rw[Int.toNat_natCast];have htn:=xA (h:=h3) r1 c1;rw[er,ec] at htn;refine aa ?_;refine xp rfl (aA rfl (k13.cell (i:=0) rfl)) ?_;refine aa ?_;refine xp rfl (aA rfl (k13.cell (i:=1) rfl)) ?_;refine xo rfl (aG rfl htn) ?_;rintro _ h4 ⟨⟨tb,rfl,htb,kt⟩,e4⟩;have k14:=k13.af e4;have k24:=k23.af e4;have z4:=e4.size;obtain⟨pl,hpl⟩:∃pl:Nat->TU,pl=fun i=>(xs.take i).foldl Ii (uH rows.toNat cols.toNat,[]):=⟨_,rfl⟩
     have hpl0:pl 0=(uH rows.toNat cols.toNat,[]):=by rw[hpl];rfl
     have hplm:cK rows.toNat cols.toNat (xs.take m)=pl m:=by rw[hpl];rfl
     rw[hplm];have k44:oJ h4 tb (pl 0).1 (pl 0).2:=by rw[hpl0];exact kt
     have hok0:dw (pl 0).1/\vw (pl 0).2/\(pl 0).2.length<=200*0:=by rw[hpl0];exact⟨GC r1 c1,fun q=>by simp at q,Nat.le_refl _⟩
     refine aa ?_;refine zB (σ:=Nat) (fun i=>[(1,.int .i64 (m:Nat)),(2,.pointer (some ⟨h.size,0,none⟩)),(4,.pointer (some ⟨h1.size,0,none⟩)),(6,.pointer (some ⟨tb,0,none⟩)),(8,.int .i64 (i:Nat))]) (fun i g=>i<=m/\oJ g tb (pl i).1 (pl i).2/\dw (pl i).1/\vw (pl i).2/\(pl i).2.length<=200*i/\ah h3 g) (fun i=>m-i) (0) ⟨Nat.zero_le _,k44,hok0.1,hok0.2.1,hok0.2.2,e4⟩ ?_;rintro i g1 ⟨hi,kti,okt,oku,hul,x1⟩ ih;have k1g:=k13.af x1;refine aa ?_;refine aQ (fun hlt=>?_) (fun hlt=>?_)
     · have hil:i<xs.length:=by omega
       obtain⟨b,o,x,ha,_,hx,hrow⟩:=(hv.af (e03.trans x1)).open_slice.fC (i:=i) hil;have hpn:pl (i+1)=Ii (pl i) x:=by rw[hpl];show (xs.take (i+1)).foldl Ii _=_;rw[List.take_add_one,hx,List.foldl_append];rfl
       have hxm:=hall x (List.mem_of_getElem? hx);have hxt:=hx2 x (List.mem_of_getElem? hx);refine aa ?_;refine xp rfl (aA rfl (k1g.cell (i:=2) rfl)) ?_;refine aU ?_;refine xp rfl (bT rfl rfl i rfl ha) ?_;refine xp rfl (bI rfl hrow) ?_;refine xo rfl (cC) ?_;rintro _ g2 ⟨rfl,k5,e5,z5⟩;refine aY rfl (bM rfl rfl k5 ((Ke x))) ?_;rintro _ g3 ⟨rfl,k6,x6,z6⟩;have k6:az g3 g1.size 59 (jy x):=k6;have e13:ah g1 g3:=ah.only e5 x6 (Nat.le_refl _);have x3:ah h3 g3:=x1.trans e13;have k3t:=kti.af e13;have htl:=let ⟨_,_,_,q,_⟩:=kti;q.lt;refine aa ?_;refine xp rfl (aA rfl (k6.cell (i:=0) rfl)) ?_;refine aa ?_
       have mid:∀(q':TU) (h':ai) (ρ':Env),Sub [(1,.int .i64 (m:Nat)),(2,.pointer (some ⟨h.size,0,none⟩)),(4,.pointer (some ⟨h1.size,0,none⟩)),(6,.pointer (some ⟨tb,0,none⟩)),(8,.int .i64 (i:Nat)),(9,.pointer (some ⟨g1.size,0,none⟩))] ρ'->(x.1=2->q'=pl i)->(x.1≠2->q'=pl (i+1))->oJ h' tb q'.1 q'.2->dw q'.1->vw q'.2->q'.2.length<=200*(i+1)->Ext (fun b=>b=tb) g3 h'->G Tryz.prog 14 f14 [.code [1,1,0,0,1,0,0,1,0,1,1,1],.blk 1,.code [1,1,0,0,1,0,1,1,1],.loop [0,0,1,0,1,1,1],.blk 0,.code [1,1,1,1]] ρ' h' (aN fun r h'=>(jT rows cols m xs/\(∃b c,r= .tuple #[.agg (cy (pl m).1.rows (pl m).1.cols (gI b (pl m).1.xs.length c) (pl m).1.row (pl m).1.col).toArray,.int .i64 0]/\Lw.rowAt h' b 0 ((pl m).1.xs.flatMap cz))\/¬jT rows cols m xs/\r= .tuple #[.agg (cy 0 0 (.slice none 0 0) 0 0).toArray,.int .i64 2])/\ah h h'):=by
        rintro q' g4 ρ' hsub a1 a2 a3 a4 a5 a6 x4;refine G.sub (ρ':=[(1,.int .i64 (m:Nat)),(2,.pointer (some ⟨h.size,0,none⟩)),(4,.pointer (some ⟨h1.size,0,none⟩)),(6,.pointer (some ⟨tb,0,none⟩)),(8,.int .i64 (i:Nat)),(9,.pointer (some ⟨g1.size,0,none⟩))]) hsub ?_;have k64:=k6.ext x4 (by omega);have E4:ah h3 g4:=ah.only x3 x4 htb;refine aa ?_;refine xp rfl (aA rfl (k64.cell (i:=0) rfl)) ?_;refine aa ?_;refine aQ (fun qs=>?_) (fun qs=>?_)
        · have hq:=a1 qs;subst hq;unfold Ii at hpn;rw[if_neg (show ¬x.1=1 by omega),if_pos qs] at hpn
          have hms:fL x.2.2.1 x.2.2.2=true:=by
           unfold fM at hxm;rw[if_neg (show ¬x.1=1 by omega),if_pos qs,Bool.and_eq_true] at hxm;exact hxm.2
          obtain⟨r2,c2,er2,ec2⟩:=qP hms;have hrs:=fun h k=>xy (h:=h) (tb:=tb) (q:=pl i) a4 k r2 c2
          rw[er2,ec2] at hrs;refine aa ?_;refine xp rfl (aA rfl (k64.cell (i:=2) rfl)) ?_;refine aa ?_;refine xp rfl (aA rfl (k64.cell (i:=3) rfl)) ?_;refine xo rfl (aG rfl (hrs _ a3)) ?_;rintro _ g5 ⟨k7,x7⟩;refine aa ?_;exact ih (i+1) ⟨by omega,by rw[hpn];exact k7,by rw[hpn];exact Gl a4 r2 c2,by rw[hpn];exact a5,by rw[hpn];exact a6,ah.only E4 x7 htb⟩
        · have hq:=a2 qs;subst hq;refine aa ?_;exact ih (i+1) ⟨by omega,a3,a4,a5,a6,E4⟩ (by omega)
       unfold Ii at hpn;refine aQ (fun qo=>?_) (fun qo=>?_)
       · rw[if_pos qo] at hpn;refine aa ?_;refine xp rfl (aA rfl (k6.cell (i:=1) rfl)) ?_;refine xo rfl (aG rfl (uD okt oku k3t (by omega))) ?_;rintro _ g4 ⟨k7,ok7,ou7,ul7,x7⟩;refine bJ ?_;exact mid (pl (i+1)) _ _ (by exact sb rfl) (fun q=>by omega) (fun _=>rfl) (by rw[hpn];exact k7) (by rw[hpn];exact ok7) (by rw[hpn];exact ou7) (by rw[hpn];omega) x7
       · rw[if_neg qo] at hpn;refine aI ?_;exact mid (pl i) _ _ (by exact sb rfl) (fun _=>rfl) (fun q=>by rw[hpn,if_neg q]) k3t okt oku (by omega) (av _ _)
     · obtain rfl:i=m:=by omega
       obtain⟨gb,gc,bl,kb,ks,hne,hcap⟩:=kti;have zx1:=x1.size;have k2g:=k23.af x1;refine aa ?_;refine xp rfl (bI rfl (Bd kb)) ?_;refine aY rfl (bM rfl rfl k2g ((jw rfl))) ?_;rintro _ g3 ⟨rfl,k6,x6,z6⟩;refine aa ?_;have k6:az g3 h1.size 41 (cy (pl i).1.rows (pl i).1.cols (gI gb (pl i).1.xs.length gc) (pl i).1.row (pl i).1.col):=k6;refine fG (fT rfl k6.row (kZ fF)) ?_
       have hneg:¬gb=h1.size:=fun q=>by
        have q1:=ks.at (i:=0) (by have:=okt.small (n:=(pl i).1.xs.length) rfl;omega) 0 _ rfl;have q2:=k2g.cell (i:=0) rfl;rw[q] at q1;have:=Option.some.inj (q1.symm.trans q2);cases this
       exact⟨_,rfl,.inl ⟨hok,gb,gc,rfl,x6.rowAt hneg ks.row⟩,ah.only (e03.trans x1) x6 (by omega)⟩
   · rw[decide_eq_false hok];refine fH rfl (by decide) ?_;refine aa ?_;refine xp rfl (au (H.Ks ) rfl) ?_;refine aY rfl (bM rfl rfl k23 ((jw rfl))) ?_;rintro _ g2 ⟨rfl,k6,x6,z6⟩;refine aa ?_;have k6:az g2 h1.size 41 (cy 0 0 (.slice none 0 0) 0 0):=k6;refine fG (fT rfl k6.row (kZ fF)) ?_;exact⟨_,rfl,.inr ⟨hok,rfl⟩,ah.only e03 x6 (by omega)⟩
end
end Go.Proofs.YtckomlgchbkekaaGreatDoor
namespace Go.Proofs
open Go.Shelf
def Tryz.xX:Go.Shelf.Ren:=⟨fun| 172=>75| 244=>127| 245=>128| 247=>184| 279=>185| 280=>186| 281=>187| 282=>188| 287=>250| 316=>251| 171=>20| 205=>252| 321=>293| 322=>294| 243=>48| 246=>78| 283=>129| 284=>130| 285=>131| 286=>132| 129=>190| 317=>189| 318=>191| 319=>192| 320=>193| 337=>253| 338=>254|n=>n,fun| 9=>9| 3=>3| 75=>65| 76=>66| 4=>4| 5=>5| 167=>281| 37=>61| 0=>0| 85=>282| 2=>2| 168=>284| 53=>106| 175=>371| 46=>280| 210=>374| 127=>104| 145=>414| 143=>412| 21=>21| 171=>202| 173=>205| 212=>288| 51=>289| 20=>20| 213=>290| 232=>415| 233=>416| 80=>70|n=>n,fun| 15=>7| 16=>8| 17=>2| 18=>12| 19=>13|n=>n⟩
theorem Tryz.sI:Go.Proofs.LaysC.n172 Tryz.prog Tryz.xX:= {
  mixed:=by kernel_rfl
  f129:=Tryz.func190.trans (congrArg some (by kernel_rfl))
  f171:=Tryz.func20.trans (congrArg some (by kernel_rfl))
  f172:=Tryz.func75.trans (congrArg some (by kernel_rfl))
  f205:=Tryz.func252.trans (congrArg some (by kernel_rfl))
  f243:=Tryz.func48.trans (congrArg some (by kernel_rfl))
  f244:=Tryz.func127.trans (congrArg some (by kernel_rfl))
  f245:=Tryz.func128.trans (congrArg some (by kernel_rfl))
  f246:=Tryz.func78.trans (congrArg some (by kernel_rfl))
  f247:=Tryz.func184.trans (congrArg some (by kernel_rfl))
  f279:=Tryz.func185.trans (congrArg some (by kernel_rfl))
  f280:=Tryz.func186.trans (congrArg some (by kernel_rfl))
  f281:=Tryz.func187.trans (congrArg some (by kernel_rfl))
  f282:=Tryz.func188.trans (congrArg some (by kernel_rfl))
  f283:=Tryz.func129.trans (congrArg some (by kernel_rfl))
  f284:=Tryz.func130.trans (congrArg some (by kernel_rfl))
  f285:=Tryz.func131.trans (congrArg some (by kernel_rfl))
  f286:=Tryz.func132.trans (congrArg some (by kernel_rfl))
  f287:=Tryz.func250.trans (congrArg some (by kernel_rfl))
  f316:=Tryz.func251.trans (congrArg some (by kernel_rfl))
  f317:=Tryz.func189.trans (congrArg some (by kernel_rfl))
  f318:=Tryz.func191.trans (congrArg some (by kernel_rfl))
  f319:=Tryz.func192.trans (congrArg some (by kernel_rfl))
  f320:=Tryz.func193.trans (congrArg some (by kernel_rfl))
  f321:=Tryz.func293.trans (congrArg some (by kernel_rfl))
  f322:=Tryz.func294.trans (congrArg some (by kernel_rfl))
  f337:=Tryz.func253.trans (congrArg some (by kernel_rfl))
  f338:=Tryz.func254.trans (congrArg some (by kernel_rfl))
  t0:=underlying0
  a0:=Tryz.isAgg0
  z0:=Tryz.sizeOf0
  v0:=Tryz.zeroValue0
  t2:=underlying2
  a2:=Tryz.isAgg2
  z2:=Tryz.sizeOf2
  v2:=Tryz.zeroValue2
  t3:=underlying3
  a3:=Tryz.isAgg3
  z3:=Tryz.sizeOf3
  v3:=Tryz.zeroValue3
  t4:=underlying4
  a4:=Tryz.isAgg4
  z4:=Tryz.sizeOf4
  v4:=Tryz.zeroValue4
  t5:=underlying5
  a5:=Tryz.isAgg5
  z5:=Tryz.sizeOf5
  v5:=Tryz.zeroValue5
  t9:=underlying9
  a9:=Tryz.isAgg9
  z9:=Tryz.sizeOf9
  v9:=Tryz.zeroValue9
  t20:=underlying20
  a20:=Tryz.isAgg20
  z20:=Tryz.sizeOf20
  v20:=Tryz.zeroValue20
  t21:=underlying21
  a21:=Tryz.isAgg21
  z21:=Tryz.sizeOf21
  v21:=Tryz.zeroValue21
  t37:=underlying61
  a37:=Tryz.isAgg61
  z37:=Tryz.sizeOf61
  v37:=Tryz.zeroValue61
  t46:=underlying280
  a46:=Tryz.isAgg280
  z46:=Tryz.sizeOf280
  v46:=Tryz.zeroValue280
  t51:=underlying289
  a51:=Tryz.isAgg289
  z51:=Tryz.sizeOf289
  v51:=Tryz.zeroValue289
  t53:=underlying106
  a53:=Tryz.isAgg106
  z53:=Tryz.sizeOf106
  v53:=Tryz.zeroValue106
  t75:=underlying65
  a75:=Tryz.isAgg65
  z75:=Tryz.sizeOf65
  v75:=Tryz.zeroValue65
  t76:=underlying66
  a76:=Tryz.isAgg66
  z76:=Tryz.sizeOf66
  v76:=Tryz.zeroValue66
  t85:=underlying282
  a85:=Tryz.isAgg282
  z85:=Tryz.sizeOf282
  v85:=Tryz.zeroValue282
  t127:=underlying104
  a127:=Tryz.isAgg104
  z127:=Tryz.sizeOf104
  v127:=Tryz.zeroValue104
  t143:=underlying412
  a143:=Tryz.isAgg412
  z143:=Tryz.sizeOf412
  v143:=Tryz.zeroValue412
  t145:=underlying414
  a145:=Tryz.isAgg414
  z145:=Tryz.sizeOf414
  v145:=Tryz.zeroValue414
  t167:=underlying281
  a167:=Tryz.isAgg281
  z167:=Tryz.sizeOf281
  v167:=Tryz.zeroValue281
  t168:=underlying284
  a168:=Tryz.isAgg284
  z168:=Tryz.sizeOf284
  v168:=Tryz.zeroValue284
  t171:=underlying202
  a171:=Tryz.isAgg202
  z171:=Tryz.sizeOf202
  v171:=Tryz.zeroValue202
  t173:=underlying205
  a173:=Tryz.isAgg205
  z173:=Tryz.sizeOf205
  v173:=Tryz.zeroValue205
  t175:=underlying371
  a175:=Tryz.isAgg371
  z175:=Tryz.sizeOf371
  v175:=Tryz.zeroValue371
  t210:=underlying374
  a210:=Tryz.isAgg374
  z210:=Tryz.sizeOf374
  v210:=Tryz.zeroValue374
  t212:=underlying288
  a212:=Tryz.isAgg288
  z212:=Tryz.sizeOf288
  v212:=Tryz.zeroValue288
  t213:=underlying290
  a213:=Tryz.isAgg290
  z213:=Tryz.sizeOf290
  t232:=underlying415
  a232:=Tryz.isAgg415
  z232:=Tryz.sizeOf415
  v232:=Tryz.zeroValue415
  t233:=underlying416
  a233:=Tryz.isAgg416
  z233:=Tryz.sizeOf416
  v233:=Tryz.zeroValue416
  g15:=by kernel_rfl
  g16:=by kernel_rfl
  g17:=by kernel_rfl
  g18:=by kernel_rfl
  g19:=by kernel_rfl
  t80:=underlying70
  a80:=Tryz.isAgg70
  z80:=Tryz.sizeOf70
  v80:=Tryz.zeroValue70
  i0:=by kernel_rfl
  i2:=by kernel_rfl
  i3:=by kernel_rfl
  i4:=by kernel_rfl
  i5:=by kernel_rfl
  i9:=by kernel_rfl
  i20:=by kernel_rfl
  i21:=by kernel_rfl
  i37:=by kernel_rfl
  i46:=by kernel_rfl
  i51:=by kernel_rfl
  i53:=by kernel_rfl
  i75:=by kernel_rfl
  i76:=by kernel_rfl
  i80:=by kernel_rfl
  i85:=by kernel_rfl
  i127:=by kernel_rfl
  i143:=by kernel_rfl
  i145:=by kernel_rfl
  i167:=by kernel_rfl
  i168:=by kernel_rfl
  i171:=by kernel_rfl
  i173:=by kernel_rfl
  i175:=by kernel_rfl
  i210:=by kernel_rfl
  i212:=by kernel_rfl
  i232:=by kernel_rfl
  i233:=by kernel_rfl
  m15:=by kernel_rfl
  m16:=by kernel_rfl
  m17:=by kernel_rfl
  m18:=by kernel_rfl
  m19:=by kernel_rfl
  c0:=by kernel_rfl
  c2:=by kernel_rfl
  c3:=by kernel_rfl
  c4:=by kernel_rfl
  c5:=by kernel_rfl
  c9:=by kernel_rfl
  c20:=by kernel_rfl
  c21:=by kernel_rfl
  c37:=by kernel_rfl
  c46:=by kernel_rfl
  c51:=by kernel_rfl
  c53:=by kernel_rfl
  c75:=by kernel_rfl
  c76:=by kernel_rfl
  c80:=by kernel_rfl
  c85:=by kernel_rfl
  c127:=by kernel_rfl
  c143:=by kernel_rfl
  c145:=by kernel_rfl
  c167:=by kernel_rfl
  c168:=by kernel_rfl
  c171:=by kernel_rfl
  c173:=by kernel_rfl
  c175:=by kernel_rfl
  c210:=by kernel_rfl
  c212:=by kernel_rfl
  c213:=by kernel_rfl
  c232:=by kernel_rfl
  c233:=by kernel_rfl }
def Tryz.AQ:Go.Shelf.Ren:=⟨fun| 145=>43| 220=>73| 219=>125| 217=>124| 225=>181| 224=>182| 267=>183| 266=>180| 314=>249|n=>n,fun| 9=>9| 4=>4| 59=>98| 3=>3| 5=>5| 46=>280| 146=>369| 51=>289|n=>n,fun| 1=>1|n=>n⟩
theorem Tryz.IV:Go.Proofs.Lays.n145 Tryz.prog Tryz.AQ:= {
  mixed:=by kernel_rfl
  f145:=Tryz.func43.trans (congrArg some (by kernel_rfl))
  f217:=Tryz.func124.trans (congrArg some (by kernel_rfl))
  f219:=Tryz.func125.trans (congrArg some (by kernel_rfl))
  f220:=Tryz.func73.trans (congrArg some (by kernel_rfl))
  f224:=Tryz.func182.trans (congrArg some (by kernel_rfl))
  f225:=Tryz.func181.trans (congrArg some (by kernel_rfl))
  f266:=Tryz.func180.trans (congrArg some (by kernel_rfl))
  f267:=Tryz.func183.trans (congrArg some (by kernel_rfl))
  f314:=Tryz.func249.trans (congrArg some (by kernel_rfl))
  t3:=underlying3
  a3:=Tryz.isAgg3
  z3:=Tryz.sizeOf3
  v3:=Tryz.zeroValue3
  t4:=underlying4
  a4:=Tryz.isAgg4
  z4:=Tryz.sizeOf4
  v4:=Tryz.zeroValue4
  t5:=underlying5
  a5:=Tryz.isAgg5
  z5:=Tryz.sizeOf5
  v5:=Tryz.zeroValue5
  t9:=underlying9
  a9:=Tryz.isAgg9
  z9:=Tryz.sizeOf9
  v9:=Tryz.zeroValue9
  t46:=underlying280
  a46:=Tryz.isAgg280
  z46:=Tryz.sizeOf280
  v46:=Tryz.zeroValue280
  t51:=underlying289
  a51:=Tryz.isAgg289
  z51:=Tryz.sizeOf289
  v51:=Tryz.zeroValue289
  t59:=underlying98
  a59:=Tryz.isAgg98
  z59:=Tryz.sizeOf98
  v59:=Tryz.zeroValue98
  t146:=underlying369
  a146:=Tryz.isAgg369
  z146:=Tryz.sizeOf369
  v146:=Tryz.zeroValue369
  g1:=by kernel_rfl }
open Go.RowKit in
theorem Tryz.strconv_Atoi_ok (s:ByteArray) (hmax:s.size<=9223372036854775806) (v:Int) (h:Lib.atoiAll s.data.toList= .ok v) (w:World) :
    Calls Tryz.prog 75 #[.string s] w fun e w'=>e= .returned (.tuple #[.int .i64 v,.nilIface])/\(w'=w\/∃t,w'=Lib.bytesWorld w 5 t):=Any.strconv_Atoi_ok Tryz.sI s hmax v h w
open Go.RowKit in
theorem Tryz.strconv_Atoi_syntax (s:ByteArray) (hlim:s.size<=281474976710656) (h:Lib.atoiAll s.data.toList= .syntax) (ev:Value) (w:World) (hv:w.cell? ⟨7,0,none⟩=some ev) (hev:ev= .nilIface\/∃te pe,ev= .iface te pe) :
    Calls Tryz.prog 75 #[.string s] w fun e w'=>∃N,e= .returned (.tuple #[.int .i64 (0),.iface 284 (.pointer (some ⟨N,0,none⟩))])/\w.heap.size<=N/\w'.heap[N]? =some (.cells #[.string ⟨#[65,116,111,105]⟩,.string s,ev] 374 (0,0))/\Below w.heap.size w w':=Any.strconv_Atoi_syntax Tryz.sI s hlim h ev w hv hev
open Go.RowKit in
theorem Tryz.strconv_Atoi_range (s:ByteArray) (hlim:s.size<=281474976710656) (h:Lib.atoiAll s.data.toList= .range) (ev:Value) (w:World) (hv:w.cell? ⟨8,0,none⟩=some ev) (hev:ev= .nilIface\/∃te pe,ev= .iface te pe) :
    Calls Tryz.prog 75 #[.string s] w fun e w'=>∃N,e= .returned (.tuple #[.int .i64 (Lib.atoiSat s.data.toList),.iface 284 (.pointer (some ⟨N,0,none⟩))])/\w.heap.size<=N/\w'.heap[N]? =some (.cells #[.string ⟨#[65,116,111,105]⟩,.string s,ev] 374 (0,0))/\Below w.heap.size w w':=Any.strconv_Atoi_range Tryz.sI s hlim h ev w hv hev
open Go.RowKit Go.Lib in
theorem Tryz.strings_Cut (s sep:ByteArray) (m:Int) (w:World) (hs:s.size<4294967281) (hm:w.cell? ⟨1,0,none⟩=some (.int .i64 m)) :
    Calls Tryz.prog 43 #[.string s,.string sep] w fun e w'=>e= .returned (.tuple #[.string ⟨(Lib.cut s.data.toList sep.data.toList).1.toArray⟩,.string ⟨(Lib.cut s.data.toList sep.data.toList).2.1.toArray⟩,.bool (Lib.cut s.data.toList sep.data.toList).2.2])/\∃n,w'=w.drewN n:=Any.strings_Cut Tryz.IV s sep m w hs hm
end Go.Proofs
namespace Go.Proofs.YtckomlgchbkekaaGreatDoor
open Go.Proofs.Tryz
open Go Go.Lw
set_option maxRecDepth 20000 set_option maxHeartbeats 4000000
section
variable {h:ai}{n b base eb wb B cb:Nat}{c:Int}{xs ys:List Ev}{O O' Z:Nat->Prop}{v w:Value}{s:By}{e:Lz}
structure Io (h:ai):Prop where
 wd:jH h
 syn:∃ev,cellAt h ⟨7,0,none⟩=some ev/\(ev= .nilIface\/∃te pe,ev= .iface te pe)
 rng:∃ev,cellAt h ⟨8,0,none⟩=some ev/\(ev= .nilIface\/∃te pe,ev= .iface te pe)
theorem Io.af {h h':ai}(k:Io h) (e:ah h h'):Io h':=by
 obtain⟨h0,⟨e1,h2,h2'⟩,⟨e2,h3,h3'⟩⟩:=k;exact⟨h0.af e,⟨e1,e.cell (fun k=>k) h2,h2'⟩,⟨e2,e.cell (fun k=>k) h3,h3'⟩⟩
theorem sP (hg:Io h) (s:By) (c:UInt8) (hs:s.length<=1000) :
 aj Tryz.prog 43 #[.string (bs s),.string ⟨#[c]⟩] h (aN fun r h'=>r= .tuple #[.string (bs (Lib.cut s [c]).1),.string (bs (Lib.cut s [c]).2.1),.bool (Lib.cut s [c]).2.2]/\h'=h):=by
 obtain⟨m,hm⟩:=hg.wd.lx.most;refine aj.qO fun w hw=>?_
 subst hw;refine(Tryz.strings_Cut (bs s) ⟨#[c]⟩ m w (by rw[aC];omega) hm).mono ?_;rintro e w' ⟨rfl,n,rfl⟩;exact⟨_,rfl,⟨rfl,rfl⟩,rfl,rfl,rfl⟩
theorem qe (hg:Io h) (s:By) (hs:s.length<=1000) :
 aj Tryz.prog 75 #[.string (bs s)] h (aN fun r h'=>(∃ev,r= .tuple #[.int .i64 (Jm s),ev])/\ah h h'):=by
 obtain⟨e1,h1,h1'⟩:=hg.syn;obtain⟨e2,h2,h2'⟩:=hg.rng;have hz:=aC s;refine aj.qO fun w hw=>?_
 subst hw;unfold Jm
 match ha:Lib.atoiAll (bs s).data.toList with
 |.ok v =>
  refine(Tryz.strconv_Atoi_ok (bs s) (by omega) v ha w).mono ?_;rintro e w' ⟨rfl,rfl|⟨t,rfl⟩⟩
  · exact⟨_,rfl,⟨⟨_,rfl⟩,av _ _⟩,rfl,rfl,rfl⟩
  · have hb:=Lib.bytesWorld_below w 5 t;exact⟨_,rfl,⟨⟨_,rfl⟩,nD hb⟩,hb.os,hb.tape,hb.output⟩
 |.syntax =>
  refine(Tryz.strconv_Atoi_syntax (bs s) (by omega) ha e1 w h1 h1').mono ?_;rintro e w' ⟨N,rfl,_,_,hb⟩;exact⟨_,rfl,⟨⟨_,rfl⟩,nD hb⟩,hb.os,hb.tape,hb.output⟩
 |.range =>
  refine(Tryz.strconv_Atoi_range (bs s) (by omega) ha e2 w h2 h2').mono ?_;rintro e w' ⟨N,rfl,_,_,hb⟩;exact⟨_,rfl,⟨⟨_,rfl⟩,nD hb⟩,hb.os,hb.tape,hb.output⟩
theorem I7 (s:By) (c:UInt8):(Lib.cut s [c]).1.length<=s.length/\(Lib.cut s [c]).2.1.length<=s.length:=by
 unfold Lib.cut;split
 · simp only[List.length_take,List.length_drop];omega
 · simp
theorem Cm (hg:Io h) (s:By) (hs:s.length<=1000):aj Tryz.prog 45 #[.string (bs s)] h (aN fun r h'=>r= .tuple #[.int .i64 (IL s).1,.int .i64 (IL s).2]/\ah h h'):=by
 have hl:=I7 s 32;unfold IL;refine bf ?_;refine aa ?_;refine xo rfl (aG rfl (sP hg s 32 hs)) ?_;rintro _ h1 ⟨rfl,hh1⟩;subst hh1;refine aa ?_;refine xo rfl (aG rfl (qe hg _ (Nat.le_trans hl.1 hs))) ?_;rintro _ h2 ⟨⟨ev,rfl⟩,e2⟩;refine aa ?_;refine xo rfl (aG rfl (qe (hg.af e2) _ (Nat.le_trans hl.2 hs))) ?_;rintro _ h3 ⟨⟨ev2,rfl⟩,e3⟩;refine aa ?_;refine aW ?_;exact⟨_,rfl,rfl,e2.trans e3⟩
theorem ym (s:By) (hs:s.length<=1000):aj Tryz.prog 126 #[.string (bs s),.string ⟨#[10]⟩] h (aN fun r h'=>r= .bool (decide (s.drop (s.length-1)=[10]))/\h'=h):=by
 have hz:=aC s;have h10:(⟨#[10]⟩:ByteArray).size=1:=rfl;refine bf ?_;refine aI ?_;refine bU ?_;refine aU ?_;refine bJ ?_;refine aI ?_;refine dM [(4,.bool (decide (s.drop (s.length-1)=[10])))] rfl ?_ ?_
 · refine aa ?_;refine dx 10 (fun c=>?_) (fun c=>?_)
   · have c:=of_decide_eq_true c;have hl:1<=s.length:=by have:(1:Int)<=((bs s).size:Nat):=c;omega
     have hd:=iX s (s.length-1);refine aa ?_;refine xp rfl (an.dB underlying9 rfl rfl (s.length-1) (by show ((bs s).size:Int)-1=_;omega) (by omega)) ?_;rw[hd];refine aa ?_;exact aL rfl ⟨ak rfl (by rw[show (⟨#[10]⟩:ByteArray)=bs [10] from rfl,HC]),sb rfl⟩
   · have c:=of_decide_eq_false c;have hl:s=[]:=List.eq_nil_of_length_eq_zero (by have:¬(1:Int)<=((bs s).size:Nat):=c;omega);refine aa ?_;exact aL rfl ⟨ak rfl (by rw[hl];rfl),sb rfl⟩
 · refine aW ?_;exact⟨_,rfl,rfl,rfl⟩
theorem zM (s:By) (hs:s.length<=1000):aj Tryz.prog 74 #[.string (bs s),.string ⟨#[10]⟩] h (aN fun r h'=>r= .string (bs (vE s))/\h'=h):=by
 have hz:=aC s;have h10:(⟨#[10]⟩:ByteArray).size=1:=rfl;unfold vE;refine bf ?_;refine aa ?_;refine xo rfl (aG rfl (ym s hs)) ?_;rintro _ h1 ⟨rfl,hh1⟩;subst hh1;refine aa ?_;refine aQ (fun ht=>?_) (fun ht=>?_)
 · have hl:1<=s.length:=by
    rcases Nat.eq_zero_or_pos s.length with q|q
    · rw[List.eq_nil_of_length_eq_zero q] at ht;exact absurd ht (by decide)
    · exact q
   refine aa ?_;refine xp rfl (an.jM underlying9 rfl rfl (s.length-1) (by show ((bs s).size:Int)-1=_;omega) (by omega)) ?_;rw[qV s 0 (s.length-1) (Nat.zero_le _),List.drop_zero];refine aa ?_;refine aW ?_;rw[if_pos ht];exact⟨_,rfl,rfl,rfl⟩
 · refine aa ?_;refine aW ?_;rw[if_neg ht];exact⟨_,rfl,rfl,rfl⟩
theorem B0 (s:By) (hs:s.length<=1000):aj Tryz.prog 44 #[.string (bs s),.string ⟨#[10]⟩] h (aN fun r h'=>r= .string (bs (vE s))/\h'=h):=by
 refine bf ?_;refine aa ?_;refine xo rfl (aG rfl (zM s hs)) ?_;rintro _ h1 ⟨rfl,hh1⟩;subst hh1;refine aa ?_;refine aW ?_;exact⟨_,rfl,rfl,rfl⟩
theorem G5:∀n:Nat,n<16->(bs LR).extract n (n+1)=bs [EX n]:=by decide +kernel
theorem K4:∀m:Nat,m<10->EX m=UInt8.ofNat (48+m):=by decide +kernel
theorem Cd (n:Nat) (hn:n<16):aj Tryz.prog 79 #[.int .u8 n] h (aN fun r h'=>r= .string (bs [EX n])/\h'=h):=by
 have hw:IntKind.u8.wrap ((n:Int)+1)=((n+1:Nat):Int):=wrap_u8 (by omega);have hx:=G5 n hn;refine bf ?_;refine aI ?_;refine bU ?_;refine aU ?_;refine bJ ?_;refine aI ?_;refine bU ?_
 iterate 2 refine aU ?_
 refine xp rfl (an.add rfl rfl) ?_;refine xp rfl (an.nN underlying9 rfl rfl n rfl rfl (n+1) hw (by omega) (by show n+1<=16;omega)) ?_;refine aa ?_;refine aW ?_;exact⟨_,rfl,by rw[<-hx];rfl,rfl⟩
def jf (n:Nat) (out:By):By:=if n=0/\out≠[] then out else Lib.decDigits n++out
theorem Bh {out:By}(h:0<n\/out=[]):jf (n / 10) ([EX (n%10)]++out)=jf n out:=by
 have hr:jf n out=Lib.decDigits n++out:=by
  unfold jf;rw[if_neg];rintro⟨h1,h2⟩
  rcases h with h|h
  · omega
  · exact h2 h
 rw[hr,K4 _ (Nat.mod_lt _ (by decide))];unfold jf
 by_cases h10:n<10
 · have hdn:Lib.decDigits n=[UInt8.ofNat (48+n)]:=by rw[Lib.decDigits,dif_pos h10]
   rw[hdn,if_pos ⟨by omega,by simp⟩,Nat.mod_eq_of_lt h10]
 · have hdn:Lib.decDigits n=Lib.decDigits (n / 10)++[UInt8.ofNat (48+n%10)]:=by rw[Lib.decDigits,dif_neg h10]
   rw[hdn,if_neg (by rintro⟨h1,_⟩;omega)];simp
theorem Hw (u:Nat) (h:u<=200):(Lib.decDigits u).length<=3:=by
 have:=AW u h;unfold Lib.itoa at this
 rwa [if_neg (by omega)] at this
theorem Cg (n0:Nat) (hn0:n0<=200):aj Tryz.prog 49 #[.int .u64 n0] h (aN fun r h'=>r= .string (bs (Lib.decDigits n0))/\h'=h):=by
 refine bf ?_;refine aa ?_;refine zB (σ:=Nat×By) (fun q=>[(0,.int .u64 q.1),(3,.string (bs q.2))]) (fun q h'=>h'=h/\q.1<=200/\jf q.1 q.2=Lib.decDigits n0) (fun q=>2*q.1+(if q.2=[] then 1 else 0)) ((n0,[])) ⟨rfl,hn0,by simp[jf]⟩ ?_;rintro⟨n,out⟩ h1 ⟨rfl,hn,hd⟩ ih
 try dsimp only
 dsimp only at hn hd
 iterate 2 refine aI ?_
 refine dM [(9,.bool (decide (0<n\/out=[])))] rfl ?_ ?_
 · refine aa ?_;refine dx 6 (fun hg=>?_) (fun hg=>?_)
   · refine aa ?_;exact aL rfl ⟨ak rfl (by have:=of_decide_eq_true hg;simp;omega),sb rfl⟩
   · have hn0':n=0:=by have:=of_decide_eq_false hg;omega
     refine aa ?_;exact aL rfl ⟨ak rfl (by subst hn0';show decide (bs out=bs [])=_;rw[HC];simp),sb rfl⟩
 · refine aQ (fun hc=>?_) (fun hc=>?_)
   · have hm:n%10<16:=by omega
     have hlen:out.length<=3:=by
      have h1:jf n out=Lib.decDigits n++out:=by
       unfold jf;rw[if_neg];rintro⟨h1,h2⟩
       rcases hc with h|h
       · omega
       · exact h2 h
      rw[hd] at h1;have h2:=Hw n0 hn0;rw[h1,List.length_append] at h2;omega
     iterate 3 refine aI ?_
     refine bU ?_;refine aU ?_;refine xp rfl (cI rfl rfl (by decide)) ?_;refine xp rfl (ur rfl (show IntKind.u8.wrap ((n:Int).tmod 10)=((n%10:Nat):Int) by rw[Int.tmod_eq_emod_of_nonneg (by omega),wrap_u8 (by omega)];omega)) ?_;refine xo rfl (aG rfl (Cd (n%10) hm)) ?_;rintro _ _ ⟨rfl,rfl⟩;refine aU ?_;refine xp rfl (an.bL rfl rfl (by rw[aC,aC];show 1+_<=_;omega)) ?_;refine aU ?_;refine bJ ?_;refine bU ?_;refine aU ?_;refine xp rfl (dh rfl rfl (by decide)) ?_;refine aa ?_
     have hq:IntKind.u64.wrap ((n:Int).tdiv 10)=((n / 10:Nat):Int):=by
      rw[Int.tdiv_eq_ediv_of_nonneg (by omega)];simp[IntKind.wrap,IntKind.bits,IntKind.signed];omega
     rw[hq,bg];exact ih (n / 10,[EX (n%10)]++out) ⟨rfl,by show n / 10<=_;omega,by rw[<-hd];exact Bh hc⟩ (by show 2*(n / 10)+(if [EX (n%10)]++out=[] then 1 else 0)<2*n+(if out=[] then 1 else 0);rw[if_neg (by simp)];rcases hc with hc|hc; { omega }; { rw[if_pos hc];omega })
   · refine aa ?_;refine aW ?_;refine⟨_,rfl,?_,rfl⟩;rw[<-hd];unfold jf;rw[if_pos ⟨by omega,fun e=>hc (.inr e)⟩];rfl
theorem jR (n:Nat) (hn:n<=200):aj Tryz.prog 23 #[.int .i64 n] h (aN fun r h'=>r= .string (bs (Lib.itoa (n:Nat)))/\h'=h):=by
 have hu:IntKind.u64.wrap (n:Int)=(n:Nat):=by simp[IntKind.wrap,IntKind.bits,IntKind.signed];omega
 have hi:Lib.itoa (n:Nat)=Lib.decDigits n:=by unfold Lib.itoa;rw[if_neg (by omega)];rfl
 refine bf ?_;refine aa ?_;refine aQ (fun hneg=>?_) (fun hneg=>?_)
 · omega
 · iterate 2 refine aI ?_
   refine bU ?_;refine aU ?_;refine xp rfl (ur rfl hu) ?_;refine xo rfl (aG rfl (Cg n hn)) ?_;rintro _ h ⟨rfl,rfl⟩;refine aa ?_;refine aW ?_;exact⟨_,rfl,by rw[hi];rfl,rfl⟩
theorem DQ:∀n:Nat,n<16->(⟨#[48,49,50,51,52,53,54,55,56,57,97,98,99,100,101,102]⟩:ByteArray).extract n (n+1)=bs [EX n]:=G5
theorem Aq (s:By) (hs:s.length<=1000):aj Tryz.prog 50 #[.string (bs s)] h (aN fun r h'=>r= .string (bs (s.flatMap CD))/\h'=h):=by
 have hz:=aC s;refine bf ?_;refine aa ?_;refine eR (σ:=Nat) (fun i=>[(4,.string (bs ((s.take i).flatMap CD))),(5,.int .i64 (i:Nat))]) (fun i h'=>i<=s.length/\h'=h) (fun i=>s.length-i) (0) ⟨Nat.zero_le _,rfl⟩ rfl ?_;rintro i g ⟨hi,hg⟩ ih;subst hg;refine aa ?_;refine aQ (fun hlt=>?_) (fun hlt=>?_)
 · have hil:i<s.length:=by omega
   obtain⟨x,hx⟩:∃x,s[i]? =some x:=⟨_,List.getElem?_eq_getElem hil⟩
   have hxl:=x.toNat_lt;obtain⟨-,w2⟩:=Mc x.toNat hxl;have w1:Int.tdiv (x.toNat:Nat) 16=((x.toNat / 16:Nat):Int):=by rw[Int.tdiv_eq_ediv_of_nonneg (by omega)];omega
   have q1:=DQ (x.toNat / 16) (by omega);have q2:=DQ (x.toNat%16) (by omega);have hll:((s.take i).flatMap CD).length<=2000:=by rw[oh,List.length_take];omega
   refine aa ?_;refine bP rfl (oK rfl rfl i rfl (cQ hx)) ?_;refine bP rfl (ur rfl (wrap_i64 ⟨by omega,by omega⟩)) ?_;refine bP rfl (dh rfl rfl (by decide)) ?_;refine aa ?_;refine bP rfl (oK rfl rfl i rfl (cQ hx)) ?_;refine bP rfl (ur rfl (wrap_i64 ⟨by omega,by omega⟩)) ?_;refine bP rfl (cI rfl rfl (by decide)) ?_;rw[w1,w2,wrap_i64 (i:=((x.toNat / 16:Nat):Int)) ⟨by omega,by omega⟩];refine aa ?_;refine bP rfl (an.nN underlying9 rfl rfl (x.toNat / 16) rfl rfl (x.toNat / 16+1) rfl (by omega) (by show _<=16;omega)) ?_;rw[q1];refine bP rfl (an.bL rfl rfl (by rw[aC,aC];show _+1<=_;omega)) ?_;refine aa ?_;refine bP rfl (an.nN underlying9 rfl rfl (x.toNat%16) rfl rfl (x.toNat%16+1) rfl (by omega) (by show _<=16;omega)) ?_;rw[q2];refine bP rfl (an.bL rfl rfl (by rw[ByteArray.size_append,aC,aC,aC];show _+1+1<=_;omega)) ?_;rw[show bs ((s.take i).flatMap CD)++bs [EX (x.toNat / 16)]++bs [EX (x.toNat%16)]=bs ((s.take (i+1)).flatMap CD) by rw[bg,bg,List.take_add_one,hx,List.flatMap_append];simp[CD]];refine aa ?_;exact ih (i+1) ⟨hil,rfl⟩
 · obtain rfl:i=s.length:=by omega
   refine aa ?_;refine aW ?_;exact⟨_,rfl,by rw[List.take_length];rfl,rfl⟩
theorem Ap (t:By) (ht:t.length<=1000) (b c:Int):aj Tryz.prog 24 #[.agg (jy (1,t,b,c)).toArray] h (aN fun r h'=>r= .string (bs (ew (1,t,b,c)))/\ah h h'):=by
 have hl:ew (1,t,b,c)=[111,117,116,32]++t.flatMap CD++[10]:=by unfold ew;rw[if_pos rfl]
 have hz:=aC (t.flatMap CD);have hx:=oh t;rw[hl];refine bf ?_;refine aa ?_;refine xo rfl (cM) ?_;rintro _ g1 ⟨rfl,k1,e1,z1⟩;have k1:az g1 h.size 59 (jy (1,t,b,c)):=k1;refine aa ?_;refine xp rfl (aA rfl (k1.cell (i:=0) rfl)) ?_;refine aa ?_;refine fH rfl (by simp) ?_;refine aa ?_;refine xp rfl (aA rfl (k1.cell (i:=1) rfl)) ?_;refine xo rfl (aG rfl (Aq t ht)) ?_;rintro _ g1 ⟨rfl,rfl⟩;refine xp rfl (an.bL rfl rfl (by rw[hz];show 4+_<=_;omega)) ?_;refine xp rfl (an.bL rfl rfl (by rw[ByteArray.size_append,hz];show 4+_+1<=_;omega)) ?_;refine aa ?_;refine aW ?_;exact⟨_,rfl,congrArg Value.string (by rw[show (⟨#[111,117,116,32]⟩:ByteArray)=bs [111,117,116,32] from rfl,show (⟨#[10]⟩:ByteArray)=bs [10] from rfl,bg,bg]),e1⟩
theorem xH (a:Int) (s:By) (b c:Int) (h1:¬a=1) (h2:¬a=2):aj Tryz.prog 24 #[.agg (jy (a,s,b,c)).toArray] h (aN fun r h'=>r= .string (bs (ew (a,s,b,c)))/\ah h h'):=by
 unfold ew;rw[if_neg h1,if_neg h2];refine bf ?_;refine aa ?_;refine xo rfl (cM) ?_;rintro _ g1 ⟨rfl,k1,e1,z1⟩;have k1:az g1 h.size 59 (jy (a,s,b,c)):=k1;refine aa ?_;refine xp rfl (aA rfl (k1.cell (i:=0) rfl)) ?_;refine aa ?_;refine bV rfl (by simpa using h1) ?_;refine aa ?_;refine bV rfl (by simpa using h2) ?_;refine aa ?_;refine aW ?_;exact⟨_,rfl,rfl,e1⟩
theorem xI (s:By){b:Int}(hb:0<=b/\b<=200) (hc:0<=c/\c<=200):aj Tryz.prog 24 #[.agg (jy (2,s,b,c)).toArray] h (aN fun r h'=>r= .string (bs (ew (2,s,b,c)))/\ah h h'):=by
 have s1:=aC (Lib.itoa b);have s2:=aC (Lib.itoa c);have n1:=eV hb;have n2:=eV hc;have s3:(⟨#[115,105,122,101,32]⟩:ByteArray)=bs [115,105,122,101,32]:=rfl;have s4:(⟨#[32]⟩:ByteArray)=bs [32]:=rfl;have s5:(⟨#[10]⟩:ByteArray)=bs [10]:=rfl;have q1:=fun h=>jR (h:=h) b.toNat (by omega)
 have q2:=fun h=>jR (h:=h) c.toNat (by omega)
 rw[show ((b.toNat:Nat):Int)=b by omega] at q1;rw[show ((c.toNat:Nat):Int)=c by omega] at q2;unfold ew;rw[if_neg (show ¬(2:Int)=1 by decide),if_pos rfl];refine bf ?_;refine aa ?_;refine xo rfl (cM) ?_;rintro _ g1 ⟨rfl,k1,e1,z1⟩;have k1:az g1 h.size 59 (jy (2,s,b,c)):=k1;refine aa ?_;refine xp rfl (aA rfl (k1.cell (i:=0) rfl)) ?_;refine aa ?_;refine bV rfl (by simp) ?_;refine aa ?_;refine fH rfl (by simp) ?_;have hM:¬Array.size g1<=h.size:=by omega
 refine aa ?_;refine ic 11 11 ?_;refine ax 0 ?_;refine aS 1 rfl (fun h' e=>aA rfl (e.cell hM (k1.cell (i:=2) rfl))) ?_;refine ax 5 ?_;refine aS 6 rfl (fun h' e=>aA rfl (e.cell hM (k1.cell (i:=3) rfl))) ?_;refine ct 2 rfl (aG rfl (q1 _)) ?_;rintro _ g2 ⟨rfl,rfl⟩;refine⟨fun _=>av _ _,?_⟩;refine aS 3 rfl (fun h' e=>an.bL rfl rfl (by rw[s1];show 5+_<=_;omega)) ?_;refine aS 4 rfl (fun h' e=>an.bL rfl rfl (by rw[ByteArray.size_append,s1];show 5+_+1<=_;omega)) ?_;refine ct 7 rfl (aG rfl (q2 _)) ?_;rintro _ g3 ⟨rfl,rfl⟩;refine⟨fun _=>av _ _,?_⟩;refine aS 8 rfl (fun h' e=>an.bL rfl rfl (by rw[ByteArray.size_append,ByteArray.size_append,s1,s2];show 5+_+1+_<=_;omega)) ?_;refine aS 9 rfl (fun h' e=>an.bL rfl rfl (by rw[ByteArray.size_append,ByteArray.size_append,ByteArray.size_append,s1,s2];show 5+_+1+_+1<=_;omega)) ?_;refine ax 10 ?_;refine dP ?_;refine aW ?_;exact⟨_,rfl,congrArg Value.string (by rw[s3,s4,s5,bg,bg,bg,bg]),e1⟩
theorem xJ (e:Ev) (hm:fM e=true) (hl:e.2.1.length<=1000):aj Tryz.prog 24 #[.agg (jy e).toArray] h (aN fun r h'=>r= .string (bs (ew e))/\ah h h'):=by
 obtain⟨a,s,b,c⟩:=e
 by_cases h1:a=1
 · subst h1;exact Ap s hl b c
 · by_cases h2:a=2
   · subst h2;have hm:(decide (s=[]) && fL b c)=true:=hm;rw[Bool.and_eq_true] at hm;have:=of_decide_eq_true hm.2;exact xI s (by omega) (by omega)
   · exact xH a s b c h1 h2
theorem Gt (rows cols:Int){i:Nat}{x:Ev}(hx:xs[i]? =some x):gN rows cols (xs.take (i+1))=gN rows cols (xs.take i)++ew x:=by unfold gN;rw[List.take_add_one,hx];simp
theorem Gw {rows cols:Int}(hr:0<=rows/\rows<=200) (hc:0<=cols/\cols<=200) (hm:xs.all fM=true) (hl:∀e∈xs,e.2.1.length<=1000) (hn:xs.length<=1000):(gN rows cols xs).length<=3000000:=by
 have n1:=eV hr;have n2:=eV hc;have:=nw hm hl;unfold gN;simp only[List.length_append,List.length_cons,List.length_nil];omega
def Gv (rows cols:Int) (xs:List Ev):By:=if iM rows cols xs=true then gN rows cols xs else []
theorem AU (hT:kY h) (hv:aR mu h O v xs) (rows cols:Int) (hl:∀e∈xs,e.2.1.length<=1000) (hn:xs.length<=1000):aj Tryz.prog 7 #[.agg (gL rows cols v).toArray] h (aN fun r h'=>r= .tuple #[.string (bs (Gv rows cols xs)),.int .i64 (if iM rows cols xs then 0 else 2)]/\ah h h'):=by
 unfold Gv;cases hc:iM rows cols xs with
 |true=>exact sM hT hv hc hl hn
 |false=>exact DP hv hc
theorem Ak (hv:aR mu h O v xs) (rows cols:Int) (hl:∀e∈xs,e.2.1.length<=1000) (hn:xs.length<=1000):aj Tryz.prog 8 #[.agg (gL rows cols v).toArray] h (aN fun r h'=>r= .tuple #[.string (bs (Gv rows cols xs)),.int .i64 (if iM rows cols xs then 0 else 2)]/\ah h h'):=by
 obtain⟨va,vn,vc,rfl,hvs⟩:=id hv.open;have hvl:xs.length=vn:=hvs.len;subst hvl;unfold Gv;refine bf ?_;refine aa ?_;refine xo rfl (cM) ?_;rintro _ h1 ⟨rfl,k1,e1,z1⟩;have k1:az h1 h.size 29 (gL rows cols (.slice va xs.length vc)):=k1;refine aa ?_;refine xp rfl (bI rfl k1.row) ?_;refine xo rfl (aG rfl (jS (hv.af e1) rows cols)) ?_;rintro _ h2 ⟨rfl,e2⟩;have e02:=e1.trans e2;have k2:=k1.af e2;cases hc:iM rows cols xs
 · refine aa ?_;refine fH rfl (by decide) ?_;refine aa ?_;refine aW ?_;exact⟨_,rfl,rfl,e02⟩
 · refine aa ?_;refine bV rfl (by decide) ?_;unfold iM at hc;rw[Bool.and_eq_true] at hc;obtain⟨hm,hall⟩:=hc;have hm:=of_decide_eq_true hm;have n1:=eV (a:=rows) (by omega);have n2:=eV (a:=cols) (by omega);have s1:=aC (Lib.itoa rows);have s2:=aC (Lib.itoa cols);have s3:(⟨#[99,97,115,116,32]⟩:ByteArray)=bs [99,97,115,116,32]:=rfl;have s4:(⟨#[32]⟩:ByteArray)=bs [32]:=rfl;have s5:(⟨#[10]⟩:ByteArray)=bs [10]:=rfl
   have hst:((((((⟨#[99,97,115,116,32]⟩:ByteArray)++bs (Lib.itoa rows))++⟨#[32]⟩)++bs (Lib.itoa cols))++⟨#[10]⟩):ByteArray)=bs (gN rows cols []):=by
    rw[s3,s4,s5,bg,bg,bg,bg];unfold gN;rw[List.flatMap_nil,List.append_nil]
   have q1:=fun h=>jR (h:=h) rows.toNat (by omega)
   have q2:=fun h=>jR (h:=h) cols.toNat (by omega)
   rw[show ((rows.toNat:Nat):Int)=rows by omega] at q1;rw[show ((cols.toNat:Nat):Int)=cols by omega] at q2;have hM:¬Array.size h2<=h.size:=by have:=k2.lt;omega
   refine aa ?_;refine ic 11 11 ?_;refine ax 0 ?_;refine aS 1 rfl (fun h' e=>aA rfl (e.cell hM (k2.cell (i:=0) rfl))) ?_;refine ax 5 ?_;refine aS 6 rfl (fun h' e=>aA rfl (e.cell hM (k2.cell (i:=1) rfl))) ?_;refine ct 2 rfl (aG rfl (q1 _)) ?_;rintro _ g2 ⟨rfl,rfl⟩;refine⟨fun _=>av _ _,?_⟩;refine aS 3 rfl (fun h' e=>an.bL rfl rfl (by rw[s1];show 5+_<=_;omega)) ?_;refine aS 4 rfl (fun h' e=>an.bL rfl rfl (by rw[ByteArray.size_append,s1];show 5+_+1<=_;omega)) ?_;refine ct 7 rfl (aG rfl (q2 _)) ?_;rintro _ g3 ⟨rfl,rfl⟩;refine⟨fun _=>av _ _,?_⟩;refine aS 8 rfl (fun h' e=>an.bL rfl rfl (by rw[ByteArray.size_append,ByteArray.size_append,s1,s2];show 5+_+1+_<=_;omega)) ?_;refine aS 9 rfl (fun h' e=>an.bL rfl rfl (by rw[ByteArray.size_append,ByteArray.size_append,ByteArray.size_append,s1,s2];show 5+_+1+_+1<=_;omega)) ?_;rw[hst];refine ax 10 ?_;refine rf (by kernel_rfl) ?_;refine xu [0,1,2,3,4,8] rfl ?_;refine G.seq rfl ?_;refine L9 func8 1 [0,1,2,3,4,5,8] rfl ?_;refine G.block rfl rfl ?_;refine nC (σ:=Nat) (fun i=>[(1,.pointer (some ⟨h.size,0,none⟩)),(4,.string (bs (gN rows cols (xs.take i)))),(5,.int .i64 (i:Nat))]) (fun i g=>i<=xs.length/\ah g3 g) (fun i=>xs.length-i) (0) rfl ⟨rfl,rfl,rfl,trivial⟩ ⟨Nat.zero_le _,av _ _⟩ ?_;rintro i g ⟨hi,eg⟩ ih;have k1g:=k2.af eg;refine G.seq rfl ?_;refine Ma func8 1 rfl ?_;refine xp rfl (aM (off:=2) underlying29 rfl rfl H.Iy rfl) ?_;refine xp rfl (bn H.Ls rfl (k1g.cell (i:=2) rfl)) ?_;refine xp rfl (an.gO underlying27 rfl) ?_;refine uv 1 [1,4,5,23] rfl ?_;refine wI rfl rfl (fun hlt=>?_) (fun hlt=>?_)
   · have hil:i<xs.length:=by omega
     obtain⟨b,o,x,ha,_,hx,hrow⟩:=(hvs.mv (Mv.af (e02.trans eg))).fC hil;have hmx:fM x=true:=List.all_eq_true.1 hall x (List.mem_of_getElem? hx);have hlx:=hl x (List.mem_of_getElem? hx);have hpl:=Gw (rows:=rows) (cols:=cols) (xs:=xs.take i) (by omega) (by omega) (List.all_eq_true.2 fun y hy=>List.all_eq_true.1 hall y (List.mem_of_mem_take hy)) (fun y hy=>hl y (List.mem_of_mem_take hy)) (by rw[List.length_take];omega);have hcl:=o6 x hmx hlx;have hp:=Gt rows cols hx;have z1:=aC (gN rows cols (xs.take i));have z2:=aC (ew x);generalize gN rows cols (xs.take i)=P at *;refine fR rfl ?_;refine G.seq rfl ?_;refine G.block rfl rfl ?_;refine G.eE func8 rfl ?_;refine Oj 1 rfl rfl (aM (off:=2) underlying29 rfl rfl H.Iy rfl) ?_;refine xp rfl (bn H.Ls rfl (k1g.cell (i:=2) rfl)) ?_;refine oH 1 rfl ?_;refine xp rfl (an.nk underlying27 H.KF rfl rfl i rfl ha (by omega)) ?_;refine xp rfl (an.bB H.NK H.KF rfl hrow (by first|rfl|(simp;done)|(simp;omega))) ?_;refine xo rfl (bu (vs:=[_]) func24 rfl H.O2 rfl (aj.jF (xJ x hmx hlx))) ?_;rintro _ g4 ⟨rfl,e4⟩;refine xp rfl (an.bL rfl rfl (by rw[z1,z2];omega)) ?_;refine uv 1 [1,4,5,23] rfl ?_;refine G.gr ?_;refine G.eE func8 rfl ?_;refine Oj 1 rfl rfl (an.dZ rfl rfl ⟨by omega,by omega⟩) ?_;refine uv 1 [1,4,5,23] rfl ?_;exact ih (i+1) _ _ ⟨rfl,by rw[hp,<-bg];rfl,rfl,trivial⟩ ⟨hil,eg.trans e4⟩ (by omega)
   · obtain rfl:i=xs.length:=by omega
     rw[List.take_length];refine aa ?_;refine aW ?_;exact⟨_,rfl,rfl,e02.trans eg⟩
theorem xD (hv:aR mu h O v xs) (hw:aR mu h O' w ys) (r1 c1 r2 c2:Int):aj Tryz.prog 12 #[.agg (gL r1 c1 v).toArray,.agg (gL r2 c2 w).toArray] h (aN fun r h'=>r= .bool (decide (r1=r2/\c1=c2/\xs=ys))/\ah h h'):=by
 obtain⟨va,vn,vc,rfl,hvs⟩:=id hv.open;have hvl:xs.length=vn:=hvs.len;subst hvl;have hvm:=hvs.cap;have hvc:=hvs.le;simp only[maxLen] at hvm;obtain⟨wa,wn,wc,rfl,hws⟩:=id hw.open;have hwl:ys.length=wn:=hws.len;subst hwl;refine bf ?_;refine aa ?_;refine xo rfl (cM) ?_;rintro _ h1 ⟨rfl,k1,e1,z1⟩;refine xo rfl (cM) ?_;rintro _ h2 ⟨rfl,k2,e2,z2⟩;have k1:az h2 h.size 29 (gL r1 c1 (.slice va xs.length vc)):=k1.af e2;have k2:az h2 h1.size 29 (gL r2 c2 (.slice wa ys.length wc)):=k2;have e02:=e1.trans e2;refine aU ?_;refine bJ ?_
 iterate 2 refine aI ?_
 refine dM [(26,.bool (!decide (r1=r2/\c1=c2/\xs.length=ys.length)))] rfl ?_ ?_
 · refine aa ?_;refine xp rfl (aA rfl (k1.cell (i:=0) rfl)) ?_;refine aa ?_;refine xp rfl (aA rfl (k2.cell (i:=0) rfl)) ?_;refine aa ?_
   by_cases q1:r1=r2
   · refine RW.aO (d:=11) (b':=false) rfl ((decide_eq_false (fun q=>q q1))) ?_;refine aa ?_;refine xp rfl (aA rfl (k1.cell (i:=1) rfl)) ?_;refine aa ?_;refine xp rfl (aA rfl (k2.cell (i:=1) rfl)) ?_;refine aa ?_
     by_cases q2:c1=c2
     · refine RW.aO (d:=18) (b':=false) rfl ((decide_eq_false (fun q=>q q2))) ?_;refine aa ?_;refine xp rfl (aA rfl (k1.cell (i:=2) rfl)) ?_;refine aa ?_;refine xp rfl (aA rfl (k2.cell (i:=2) rfl)) ?_;refine aa ?_;exact aL rfl ⟨ak rfl (by rw[<-decide_not,decide_eq_decide];omega),sb rfl⟩
     · refine RW.aO (d:=18) (b':=true) rfl ((decide_eq_true q2)) ?_;refine aa ?_;exact aL rfl ⟨ak rfl (by rw[decide_eq_false (fun q=>q2 q.2.1)];rfl),sb rfl⟩
   · refine RW.aO (d:=11) (b':=true) rfl ((decide_eq_true q1)) ?_;refine aa ?_;exact aL rfl ⟨ak rfl (by rw[decide_eq_false (fun q=>q1 q.1)];rfl),sb rfl⟩
 · by_cases q0:r1=r2/\c1=c2/\xs.length=ys.length
   · rw[decide_eq_true q0];refine bV rfl (by decide) ?_;obtain⟨q1,q2,q3⟩:=q0;refine aa ?_;refine eR (σ:=Nat) (fun i=>[(5,.int .i64 (i:Nat))]) (fun i g=>i<=xs.length/\xs.take i=ys.take i/\g=h2) (fun i=>xs.length-i) (0) ⟨Nat.zero_le _,rfl,rfl⟩ rfl ?_;rintro i g ⟨hi,ht,hg⟩ ih;subst hg;refine aa ?_;refine xp rfl (aA rfl (k1.cell (i:=2) rfl)) ?_;refine aa ?_;refine aQ (fun hlt=>?_) (fun hlt=>?_)
     · have hil:i<xs.length:=by omega
       obtain⟨b,o,x,ha,_,hx,hrow⟩:=(hvs.mv (Mv.af e02)).fC hil;obtain⟨b',o',y,ha',_,hy,hrow'⟩:=(hws.mv (Mv.af e02)).fC (i:=i) (by omega);refine aa ?_;refine bP rfl (aA rfl (k1.cell (i:=2) rfl)) ?_;refine mU ?_;refine bP rfl (bT rfl rfl i rfl ha) ?_;refine bP rfl (bI rfl hrow) ?_;refine aa ?_;refine bP rfl (aA rfl (k2.cell (i:=2) rfl)) ?_;refine mU ?_;refine bP rfl (bT rfl rfl i rfl ha') ?_;refine bP rfl (bI rfl hrow') ?_;refine bP rfl (an.nh A7 DB DS rfl rfl (Kc x y)) ?_;refine aa ?_
       by_cases hxy:x=y
       · refine bV rfl (by simp[hxy]) ?_;subst hxy;refine aa ?_;exact ih (i+1) ⟨hil,by rw[List.take_add_one,List.take_add_one,ht,hx,hy],rfl⟩
       · refine fH rfl (by simp[hxy]) ?_;rw[decide_eq_false (show ¬(r1=r2/\c1=c2/\xs=ys) from fun q=>by rw[q.2.2,hy] at hx;exact hxy (Option.some.inj hx).symm)];refine aa ?_;refine aW ?_;exact⟨_,rfl,rfl,e02⟩
     · obtain rfl:i=xs.length:=by omega
       rw[List.take_length,q3,List.take_length] at ht;rw[decide_eq_true (show r1=r2/\c1=c2/\xs=ys from ⟨q1,q2,ht⟩)];refine aa ?_;refine aW ?_;exact⟨_,rfl,rfl,e02⟩
   · rw[decide_eq_false q0];refine fH rfl (by decide) ?_;rw[decide_eq_false (show ¬(r1=r2/\c1=c2/\xs=ys) from fun q=>q0 ⟨q.1,q.2.1,by rw[q.2.2]⟩)];refine aa ?_;refine aW ?_;exact⟨_,rfl,rfl,e02⟩
theorem CK (hv:aR mu h O v xs) (hw:aR mu h O' w ys) :
 aj Tryz.prog 30 #[v,w] h (aN fun r h'=>r= .bool (decide (xs=ys))/\h'=h):=by
 obtain⟨va,vn,vc,rfl,hvs⟩:=id hv.open;obtain⟨wa,wn,wc,rfl,hws⟩:=id hw.open;have hl1:xs.length=vn:=hvs.len;have hl2:ys.length=wn:=hws.len;subst hl1 hl2;refine bf ?_;refine aa ?_;refine aQ (fun q0=>?_) (fun q0=>?_)
 · rw[decide_eq_false (show ¬xs=ys from fun q=>q0 (by rw[q]))];refine aa ?_;refine aW ?_;exact⟨_,rfl,rfl,rfl⟩
 · have hll:xs.length=ys.length:=by omega
   have hmx:xs.length<=9223372036854775807:=by have h1:=hvs.le;have h2:=hvs.cap;simp only[maxLen] at h2;omega
   refine aa ?_;refine eR (σ:=Nat) (fun i=>[(13,.int .i64 (i:Nat))]) (fun i g=>i<=xs.length/\xs.take i=ys.take i/\g=h) (fun i=>xs.length-i) (0) ⟨Nat.zero_le _,rfl,rfl⟩ rfl ?_;rintro i g ⟨hi,ht,hg⟩ ih;subst hg;refine aa ?_;refine aQ (fun hlt=>?_) (fun hlt=>?_)
   · have hil:i<xs.length:=by omega
     obtain⟨b1,o1,x,ha1,_,hx,hrow1⟩:=hvs.fC (i:=i) hil;obtain⟨b2,o2,y,ha2,_,hy,hrow2⟩:=hws.fC (i:=i) (by omega)
     iterate 4 refine aI ?_
     refine bU ?_
     iterate 2 refine aU ?_
     refine bJ ?_;refine aI ?_;refine PI ?_
     iterate 2 refine mU ?_
     refine bP rfl (bT rfl rfl i rfl ha1) ?_;refine bP rfl (bI rfl hrow1) ?_
     iterate 2 refine mU ?_
     refine bP rfl (bT rfl rfl i rfl ha2) ?_;refine bP rfl (bI rfl hrow2) ?_;refine bP rfl (an.nh A6 DA DR rfl rfl (Kb x y)) ?_;refine aa ?_
     by_cases hxy:x=y
     · refine bV rfl (by simp[hxy]) ?_;subst hxy;refine aa ?_;exact ih (i+1) ⟨hil,by rw[List.take_add_one,List.take_add_one,ht,hx,hy],rfl⟩
     · refine fH rfl (by simp[hxy]) ?_;rw[decide_eq_false (show ¬xs=ys from fun q=>by rw[q,hy] at hx;exact hxy (Option.some.inj hx).symm)];refine aa ?_;refine aW ?_;exact⟨_,rfl,rfl,rfl⟩
   · obtain rfl:i=xs.length:=by omega
     rw[List.take_length,hll,List.take_length] at ht;rw[decide_eq_true ht];refine aa ?_;refine aW ?_;exact⟨_,rfl,rfl,rfl⟩
theorem qn (hv:aR mu h O v xs) (hw:aR mu h O' w ys) (r1 c1 r2 c2:Int) :
 aj Tryz.prog 11 #[.agg (gL r1 c1 v).toArray,.agg (gL r2 c2 w).toArray] h (aN fun r h'=>r= .bool (decide (r1=r2/\c1=c2/\xs=ys))/\ah h h'):=by
 obtain⟨va,vn,vc,rfl,hvs⟩:=id hv.open;obtain⟨wa,wn,wc,rfl,hws⟩:=id hw.open;refine bf ?_;refine aa ?_;refine xo rfl (cM) ?_;rintro _ h1 ⟨rfl,k1,e1,z1⟩;refine xo rfl (cM) ?_;rintro _ h2 ⟨rfl,k2,e2,z2⟩;have k1:az h2 h.size 24 (gL r1 c1 (.slice va vn vc)):=k1.af e2;have k2:az h2 h1.size 24 (gL r2 c2 (.slice wa wn wc)):=k2;have e02:=e1.trans e2;refine aU ?_;refine bJ ?_;refine aI ?_;refine dM [(4,.bool (decide (r1=r2/\c1=c2/\xs=ys)))] rfl ?_ ?_
 · refine aa ?_;refine xp rfl (aA rfl (k1.cell (i:=0) rfl)) ?_;refine aa ?_;refine xp rfl (aA rfl (k2.cell (i:=0) rfl)) ?_;refine aa ?_;refine dx 10 (fun g1=>?_) (fun g1=>?_)
   · have g1:=of_decide_eq_true g1;refine aa ?_;refine xp rfl (aA rfl (k1.cell (i:=1) rfl)) ?_;refine aa ?_;refine xp rfl (aA rfl (k2.cell (i:=1) rfl)) ?_;refine aa ?_;refine dx 17 (fun g2=>?_) (fun g2=>?_)
     · have g2:=of_decide_eq_true g2;refine aa ?_;refine xp rfl (aA rfl (k1.cell (i:=2) rfl)) ?_;refine aa ?_;refine xp rfl (aA rfl (k2.cell (i:=2) rfl)) ?_;refine xo rfl (aG rfl (CK (hv.af e02) (hw.af e02))) ?_;rintro _ h3 ⟨rfl,hh3⟩;refine aa ?_;subst hh3;exact aL rfl ⟨ak rfl (by rw[decide_eq_decide];exact⟨fun q=>⟨g1,g2,q⟩,fun q=>q.2.2⟩),sb rfl⟩
     · have g2:=of_decide_eq_false g2;refine aa ?_;exact aL rfl ⟨ak rfl (by rw[decide_eq_false (fun q=>g2 q.2.1)]),sb rfl⟩
   · have g1:=of_decide_eq_false g1;refine aa ?_;exact aL rfl ⟨ak rfl (by rw[decide_eq_false (fun q=>g1 q.1)]),sb rfl⟩
 · refine aW ?_;exact⟨_,rfl,rfl,e02⟩
theorem AK (s:By):aj Tryz.prog 42 #[.string (bs s)] h (aN fun r h'=>r= .func (.func 71) #[] #[.pointer (some ⟨h.size,0,none⟩)]/\az h' h.size 9 [.string (bs s)]/\ah h h'/\h'.size=h.size+1):=by
 refine bf ?_;refine aa ?_;refine xo rfl (cM) ?_;rintro _ h1 ⟨rfl,k1,e1,z1⟩;refine aa ?_;refine xp rfl (an.makeFunc (vs:=[_]) rfl) ?_;refine aa ?_;refine aW ?_;exact⟨_,rfl,rfl,k1,e1,z1⟩
theorem xV {l:Nat}{J:By->By->ai->Prop}{S:ai->Prop}(hread:∀t u h,J t u h->az h b 9 [.string (bs u)])
 (hst:∀t u u' h h',J t u h->Ext (fun y=>y=b) h h'->az h' b 9 [.string (bs u')]->J t u' h')
 (hy:∀x r h,x≠[]->fo (x++r)=x::fo r->J (x++r) r h->cV Tryz.prog l #[.string (bs x)] h (aN fun v h'=>∃go,v= .bool go/\(go=true->J r r h')/\(go=false->S h')))
 (hs:s.length<=1000) (h0:J s s h) :
 aj Tryz.prog 71 #[.func (.yield l) #[] #[],.pointer (some ⟨b,0,none⟩)] h (aN fun _ h'=>J [] [] h'\/S h'):=by
 refine bf ?_;refine aa ?_;refine eR (σ:=By) (fun _=>[]) (fun t h'=>t.length<=1000/\J t t h') (fun t=>t.length) (s) ⟨hs,h0⟩ rfl ?_;rintro t g ⟨hl,hJ⟩ ih;have k:=hread t t g hJ;have hz:=aC t;refine aa ?_;refine xp rfl (aA rfl (k.cell (i:=0) rfl)) ?_;refine aa ?_;refine aQ (fun hlt=>?_) (fun hlt=>?_)
 · have hpos:0<t.length:=by omega
   refine aa ?_;refine xp rfl (aA rfl (k.cell (i:=0) rfl)) ?_;refine xo rfl (aG rfl (gW (bs t) 10)) ?_;rintro _ g1 ⟨rfl,hg1⟩;subst hg1;have hix:Lib.indexByte (bs t).data.toList (10:Int).toNat.toUInt8=Lib.indexByte t 10:=rfl;rw[hix];refine aa ?_
   have fin:∀(x r:By) (h':ai) (ρ':Env),Sub [(0,.func (.yield l) #[] #[]),(1,.pointer (some ⟨b,0,none⟩)),(3,.string (bs x))] ρ'->t=x++r->x≠[]->fo t=x::fo r->J t r h'->G Tryz.prog 71 f71 [.code [1,1,0,1,0,0],.blk 1,.loop [0,0],.blk 0] ρ' h' (aN fun _ h'=>J [] [] h'\/S h'):=by
    rintro x r g2 ρ' hsub rfl hx hlr hJ2;refine G.sub (ρ':=[(0,.func (.yield l) #[] #[]),(1,.pointer (some ⟨b,0,none⟩)),(3,.string (bs x))]) hsub ?_;have hxl:0<x.length:=by cases x with|nil=>exact absurd rfl hx|cons _ _=>simp
    rw[List.length_append] at hl;refine aI ?_;refine G.Cf func71 rfl ?_;refine aV.aB rfl rfl rfl rfl rfl (aD rfl) ?_;refine aV.aB rfl rfl rfl rfl rfl (aD rfl) ?_;refine aV.yield (vs:=[_]) rfl rfl rfl rfl rfl rfl rfl ((hy x r g2 hx hlr hJ2)) ?_;rintro _ g3 ⟨go,rfl,q1,q2⟩
    rcases Bool.eq_false_or_eq_true go with hgo|hgo
    · subst hgo;refine aV.aB rfl rfl rfl rfl rfl (an.se rfl) ?_;refine aX rfl ?_;refine bV rfl (by decide) ?_;refine aa ?_;exact ih r ⟨by omega,q1 rfl⟩ (by rw[List.length_append];omega)
    · subst hgo;refine aV.aB rfl rfl rfl rfl rfl (an.se rfl) ?_;refine aX rfl ?_;refine fH rfl (by decide) ?_;refine aW ?_;exact⟨_,rfl,.inr (q2 rfl)⟩
   rcases sQ t 10 with ⟨hi,hn⟩|⟨a,r,he,hn,hi⟩
   · rw[hi];refine bV rfl (by decide) ?_;have hne:t≠[]:=fun q=>by rw[q] at hpos;exact absurd hpos (by decide)
     refine aa ?_;refine xp rfl (aA rfl (k.cell (i:=0) rfl)) ?_;refine aa ?_;refine aY rfl (b7 rfl rfl k) ?_;rintro _ g2 ⟨rfl,k2,x2,z2⟩;refine bJ ?_;exact fin t [] _ _ (by exact sb rfl) (List.append_nil t).symm hne (Cz hne hn) (hst _ _ _ _ _ hJ x2 k2)
   · subst he;rw[hi];have hla:(a++10::r).length=a.length+1+r.length:=by simp;omega
     have hp1:(bs (a++10::r)).extract 0 (a.length+1)=bs (a++[10]):=by rw[qV _ 0 _ (Nat.zero_le _),show a++10::r=(a++[10])++r by simp,List.take_left' (by simp),List.drop_zero]
     have hp2:(bs (a++10::r)).extract (a.length+1) (bs (a++10::r)).size=bs r:=by rw[iX];simp
     refine fH rfl (by simp) ?_;have hM:¬Array.size g1<=b:=by have:=k.lt;omega
     refine ic 10 9 ?_;refine aS 0 rfl (fun h' e=>aA rfl (e.cell hM (k.cell (i:=0) rfl))) ?_;refine ax 1 ?_;refine ax 2 ?_;refine aS 3 rfl (fun h' e=>an.jM underlying9 rfl rfl (a.length+1) rfl (by omega)) ?_;refine aS 4 rfl (fun h' e=>aA rfl (e.cell hM (k.cell (i:=0) rfl))) ?_;refine ax 5 ?_;refine ax 6 ?_;refine aS 7 rfl (fun h' e=>an.dB underlying9 rfl rfl (a.length+1) rfl (by omega)) ?_;rw[hp1,hp2];refine ax 8 ?_;refine eK 9 rfl (b7 rfl rfl k) ?_;rintro _ g2 ⟨rfl,k2,x2,z2⟩;refine⟨nofun,?_⟩;refine dP ?_;exact fin (a++[10]) r _ _ (by exact sb rfl) (by simp) (by simp) (ES hn) (hst _ _ _ _ _ hJ x2 k2)
 · obtain rfl:t=[]:=List.eq_nil_of_length_eq_zero (by omega);refine aa ?_;refine gE ?_;exact⟨_,rfl,.inl hJ⟩
theorem Pn {a b:Int}{x:Option Addr}{c:Nat}:∀v∈gL a b (.slice x n c),v.oneCell'=true:=fun v hv=>by
 simp only[gL,List.mem_cons,List.not_mem_nil,or_false] at hv
 rcases hv with rfl|rfl|rfl<;>rfl
theorem wz (hv:aR mu h O v xs) (hn:xs.length<=1000) (rows cols:Int):aj Tryz.prog 6 #[.agg (gL rows cols v).toArray] h (aN fun r h'=>(∃v',r= .agg (gL rows cols v').toArray/\aR mu h' (fun _=>False) v' xs)/\ah h h'):=by
 obtain⟨va,vn,vc,rfl,hvs⟩:=id hv.open;have hvl:xs.length=vn:=hvs.len;subst hvl;refine bf ?_;refine aa ?_;refine xo rfl (cM) ?_;rintro _ h1 ⟨rfl,k1,e1,z1⟩;refine xo rfl (cC) ?_;rintro _ h2 ⟨rfl,k2,e2,z2⟩;have k1:az h2 h.size 24 (gL rows cols (.slice va xs.length vc)):=k1.af e2;have k2:az h2 h1.size 29 (gL 0 0 (.slice none 0 0)):=k2;refine aa ?_;refine xp rfl (aA rfl (k1.cell (i:=0) rfl)) ?_;refine aa ?_;refine xp rfl (aA rfl (k1.cell (i:=1) rfl)) ?_;refine xp rfl (au (H.HN _ _) rfl) ?_;refine xo rfl (cC) ?_;rintro _ h3 ⟨rfl,k3,e3,z3⟩;refine aY rfl (bM rfl rfl k3) ?_;rintro _ h4 ⟨rfl,k4,x4,z4⟩;have k4:az h4 h2.size 29 (gL rows cols (.slice none 0 0)):=k4;have e24:ah h2 h4:=ah.only e3 x4 (Nat.le_refl _);have k14:=k1.af e24;have k24:=k2.af e24;have e04:=(e1.trans e2).trans e24;have hz2:h2.size<h4.size:=by omega
 refine aa ?_;refine eR (σ:=Nat×Value) (fun q=>[(4,.int .i64 (q.1:Nat))]) (fun q g=>q.1<=xs.length/\az g h2.size 29 (gL rows cols q.2)/\eP 4 jy g h4.size 59 q.2 (xs.take q.1)/\Ext (fun b=>b=h2.size) h4 g) (fun q=>xs.length-q.1) ((0,.slice none 0 0)) ⟨Nat.zero_le _,k4,eP.nil _ _ _ _ _,av _ _⟩ rfl ?_;rintro⟨i,w⟩ g ⟨hi,kc,ko,xg⟩ ih
 try dsimp only
 dsimp only at hi kc ko;have k1g:=k14.ext xg (by omega);have zg:=xg.size;have e0g:ah h g:=ah.only e04 xg (by omega);refine aa ?_;refine xp rfl (aA rfl (k1g.cell (i:=2) rfl)) ?_;refine aa ?_;refine aQ (fun hlt=>?_) (fun hlt=>?_)
 · have hil:i<xs.length:=by omega
   obtain⟨b,o,x,ha,_,hx,hrow0⟩:=hvs.fC hil;have hbl:b<h.size:=ck (hrow0 0 _ rfl);have hrow:=e0g.rowAt (fun q=>q) hrow0;have hz0:=e04.size;have hz1:=z1;have htl:(xs.take i).length<=1000:=by rw[List.length_take];omega
   have hlt1:=k1g.lt
   have hM:∀y,y<h4.size->¬(b8 w.ownBlock y\/Array.size g<=y):=fun y hy q=>by
    rcases q with q|q
    · have:=(ay.lt ko q.symm).1;omega
    · omega
   refine aa ?_;refine uq 11 (fun y=>b8 w.ownBlock y\/Array.size g<=y) (fun i=>Nat.blt i 10) ?_;refine ax 0 ?_;refine aS 1 rfl (fun h' e=>aA rfl (e.cell (hM h2.size (by omega)) (kc.cell (i:=2) rfl))) ?_;refine ax 2 ?_;refine aS 3 rfl (fun h' e=>aA rfl (e.cell (hM h.size (by omega)) (k1g.cell (i:=2) rfl))) ?_;refine ax 4 ?_;refine aS 5 rfl (fun h' e=>bT rfl rfl i rfl ha) ?_;refine aS 6 rfl (fun h' e=>bI rfl (e.rowAt (hM b (by omega)) hrow)) ?_;refine ct 7 rfl (mz) ?_;rintro _ _ ⟨rfl,rfl⟩;refine⟨fun _=>by first|exact Ext.push _ _ _|assumption,?_⟩;refine ct 8 rfl (aH.dO underlying27 H.Nc rfl rfl (ko) rfl rfl ((Ke _)) (by omega) (by decide) (by omega)) ?_;rintro v2 g2 ⟨ho2,hx2,hx2',hv2⟩;refine⟨fun _=>hx2'.mono (fun _ _ k=>.inl k),?_⟩;have ho2:eP 4 jy g2 h4.size 59 v2 (xs.take i++[x]):=eP.of ho2 rfl rfl;have ho2:eP 4 jy g2 h4.size 59 v2 (xs.take (i+1)):=by rw[<-vG hx];exact ho2
   obtain⟨wa,wc,rfl,_⟩:=ay.open ho2;have kc2:=kc.ext hx2 (fun q=>by have:=(ay.lt ko q.symm).1;omega);refine ax 9 ?_;refine eK 10 rfl (b7 rfl rfl kc2) ?_;rintro _ g3 ⟨rfl,k5,x5,w5⟩;refine⟨nofun,?_⟩;refine dP ?_;refine aa ?_
   exact ih (i+1,_) ⟨hil,k5,ay.ext x5 ho2 (fun b hb q=>by have:=(ay.lt ho2 hb).1;omega),⟨by have:=hx2.size;omega,fun y hy hm=>by
    have zx:=hx2.size;exact(x5.block y (by omega) hm).trans ((hx2.block y (by omega) (fun q=>by have:=(ay.lt ko q.symm).1;omega)).trans (xg.block y hy hm))⟩⟩ (by show xs.length-(i+1)<xs.length-i;omega)
 · obtain rfl:i=xs.length:=by omega
   rw[List.take_length] at ko;obtain⟨wa,wc,rfl,_⟩:=ay.open ko;have k2g:=k24.ext xg (by omega);refine aa ?_;refine xp rfl (bI rfl kc.row) ?_;refine aY rfl (bM rfl rfl k2g ((by simp[gL,Value.oneCell']))) ?_;rintro _ g1 ⟨rfl,k5,x5,w5⟩;refine aa ?_;refine fG (fT rfl k5.row fF) ?_;exact⟨_,rfl,⟨_,rfl,eP.read (ay.ext x5 ko (fun b hb q=>by have:=(ay.lt ko hb).1;omega)) (fun b hb q=>q)⟩,ah.only e0g x5 (by omega)⟩
theorem xK {rows cols c b' c':Nat}{row col:Int}{xs:List cY}(hx:xs.length=n) (hn:n<=20000) (k:Lw.rowAt h b 0 (xs.flatMap cz)) (k':Lw.rowAt h b' 0 (xs.flatMap cz)) :
 aj Tryz.prog 15 #[.agg (cy rows cols (gI b n c) row col).toArray,.agg (cy rows cols (gI b' n c') row col).toArray] h (aN fun r h'=>r= .bool true/\ah h h'):=by
 refine bf ?_;refine aa ?_;refine xo rfl (cM) ?_;rintro _ h1 ⟨rfl,k1,e1,z1⟩;refine xo rfl (cM) ?_;rintro _ h2 ⟨rfl,k2,e2,z2⟩;have k1:az h2 h.size 41 (cy rows cols (gI b n c) row col):=k1.af e2;have k2:az h2 h1.size 41 (cy rows cols (gI b' n c') row col):=k2;have e02:=e1.trans e2;have r1:=e02.rowAt (fun q=>q) k;have r2:=e02.rowAt (fun q=>q) k';refine aU ?_;refine bJ ?_
 iterate 2 refine aI ?_
 refine dM [(40,.bool false)] rfl ?_ ?_
 · refine aa ?_;refine xp rfl (aA rfl (k1.cell (i:=0) rfl)) ?_;refine aa ?_;refine xp rfl (aA rfl (k2.cell (i:=0) rfl)) ?_;refine aa ?_;refine RW.aO (d:=11) (b':=false) rfl ((by simp)) ?_;refine aa ?_;refine xp rfl (aA rfl (k1.cell (i:=1) rfl)) ?_;refine aa ?_;refine xp rfl (aA rfl (k2.cell (i:=1) rfl)) ?_;refine aa ?_;refine RW.aO (d:=18) (b':=false) rfl ((by simp)) ?_;refine aa ?_;refine xp rfl (aA rfl (k1.cell (i:=3) rfl)) ?_;refine aa ?_;refine xp rfl (aA rfl (k2.cell (i:=3) rfl)) ?_;refine aa ?_;refine RW.aO (d:=25) (b':=false) rfl ((by simp)) ?_;refine aa ?_;refine xp rfl (aA rfl (k1.cell (i:=4) rfl)) ?_;refine aa ?_;refine xp rfl (aA rfl (k2.cell (i:=4) rfl)) ?_;refine aa ?_;refine RW.aO (d:=32) (b':=false) rfl ((by simp)) ?_;refine aa ?_;refine xp rfl (aA rfl (k1.cell (i:=2) rfl)) ?_;refine aa ?_;refine xp rfl (aA rfl (k2.cell (i:=2) rfl)) ?_;refine aa ?_;exact aL rfl ⟨ak rfl (by simp),sb rfl⟩
 · refine bV rfl (by decide) ?_;refine aa ?_;refine eR (σ:=Nat) (fun i=>[(5,.int .i64 (i:Nat))]) (fun i g=>i<=n/\g=h2) (fun i=>n-i) (0) ⟨Nat.zero_le _,rfl⟩ rfl ?_;rintro i g ⟨hi,hg⟩ ih;subst hg;refine aa ?_;refine xp rfl (aA rfl (k1.cell (i:=2) rfl)) ?_;refine aa ?_;refine aQ (fun hlt=>?_) (fun hlt=>?_)
   · have a1:=jA r1 (i:=i) (by omega);have a2:=jA r2 (i:=i) (by omega);refine aa ?_;refine bP rfl (aA rfl (k1.cell (i:=2) rfl)) ?_;refine mU ?_;refine bP rfl (bT rfl rfl i rfl rfl) ?_;refine bP rfl (bI rfl a1) ?_;refine aa ?_;refine bP rfl (aA rfl (k2.cell (i:=2) rfl)) ?_;refine mU ?_;refine bP rfl (bT rfl rfl i rfl rfl) ?_;refine bP rfl (bI rfl a2) ?_;refine bP rfl (an.nh tA wZ yq rfl rfl (NB (bX xs i) (bX xs i))) ?_;refine aa ?_;refine bV rfl (by simp) ?_;refine aa ?_;exact ih (i+1) ⟨by omega,rfl⟩
   · refine aa ?_;refine aW ?_;exact⟨_,rfl,rfl,e02⟩
abbrev Fa (s:By):Value:=.string (bs s)
abbrev Qi:fS By:=.flat Fa (fun _=>rfl)
theorem uK {l:List By}(hv:aR Qi h O v l) (m:Nat):aj Tryz.prog 16 #[v,.int .i64 (m:Nat)] h (aN fun r h'=>(∃b,r= .bool b/\(b=false->l.length<=m/\∀s∈l,s.length<=200))/\h'=h):=by
 obtain⟨va,vn,vc,rfl,hvs⟩:=id hv.open;have hvl:l.length=vn:=hvs.len;subst hvl;have hvm:=hvs.cap;have hvc:=hvs.le;simp only[maxLen] at hvm;refine bf ?_;refine aa ?_;refine eR (σ:=Nat) (fun i=>[(5,.int .i64 (i:Nat))]) (fun i g=>i<=l.length/\(∀s∈l.take i,s.length<=200)/\g=h) (fun i=>l.length-i) (0) ⟨Nat.zero_le _,(fun s hs=>by simp at hs),rfl⟩ rfl ?_;rintro i g ⟨hi,hs,hg⟩ ih;subst hg;refine aa ?_;refine aQ (fun hlt=>?_) (fun hlt=>?_)
 · have hil:i<l.length:=by omega
   obtain⟨b,o,x,ha,_,hx,hrow⟩:=hvs.at (i:=i) hil;have hbs:=aC x
   iterate 4 refine aI ?_
   refine bU ?_
   iterate 2 refine aU ?_
   refine xp rfl (bT rfl rfl i rfl ha) ?_;refine xp rfl (aA rfl hrow) ?_;refine aa ?_;refine aQ (fun hgt=>?_) (fun hgt=>?_)
   · refine aa ?_;refine aW ?_;exact⟨_,rfl,⟨true,rfl,fun q=>by cases q⟩,rfl⟩
   · refine aa ?_
     exact ih (i+1) ⟨hil,fun s hs'=>by
      rw[List.take_add_one,hx] at hs'
      rcases List.mem_append.1 hs' with q|q
      · exact hs s q
      · simp at q;rw[q];omega,rfl⟩ (by omega)
 · obtain rfl:i=l.length:=by omega
   rw[List.take_length] at hs;refine aa ?_;refine aW ?_;exact⟨_,rfl,⟨_,rfl,fun q=>⟨by have:=of_decide_eq_false q;omega,hs⟩⟩,rfl⟩
theorem mO (hv:aR mu h O v xs) (hxb:xs.length*40<=140737488351232) (rows cols:Int) (m:Nat):aj Tryz.prog 4 #[.agg (gL rows cols v).toArray,.int .i64 (m:Nat)] h (aN fun r h'=>(∃b,r= .bool b/\(b=false->xs.length<=m/\∀e∈xs,e.2.1.length<=200))/\ah h h'):=by
 obtain⟨va,vn,vc,rfl,hvs⟩:=id hv.open;have hvl:xs.length=vn:=hvs.len;subst hvl;have hvm:=hvs.cap;have hvc:=hvs.le;have hmx:xs.length+1<=maxLen:=by simp only[maxLen];omega
 refine bf ?_;refine aa ?_;refine xo rfl (cM) ?_;rintro _ h1 ⟨rfl,k1,e1,z1⟩;have k1:az h1 h.size 24 (gL rows cols (.slice va xs.length vc)):=k1;refine aa ?_;refine eR (σ:=Nat×Value) (fun q=>[(5,q.2),(6,.int .i64 (q.1:Nat))]) (fun q g=>q.1<=xs.length/\bF Fa g h1.size 9 q.2 ((xs.take q.1).map fun e=>e.2.1)/\ah h1 g) (fun q=>xs.length-q.1) ((0,.slice none 0 0)) ⟨Nat.zero_le _,bF.nil _ _ _ _,av _ _⟩ rfl ?_;rintro⟨i,w⟩ g ⟨hi,ko,xg⟩ ih
 try dsimp only
 dsimp only at hi ko;have k1g:=k1.af xg;have zg:=xg.size;have htl:((xs.take i).map fun e=>e.2.1).length=i:=by rw[List.length_map,List.length_take];omega
 obtain⟨wa,wc,rfl,_⟩:=ay.open ko;refine aa ?_;refine xp rfl (aA rfl (k1g.cell (i:=2) rfl)) ?_;refine aa ?_;refine aQ (fun hlt=>?_) (fun hlt=>?_)
 · have hil:i<xs.length:=by omega
   obtain⟨b,o,x,ha,_,hx,hrow⟩:=(hvs.mv (Mv.af (e1.trans xg))).fC hil;refine aa ?_;refine xp rfl (aA rfl (k1g.cell (i:=2) rfl)) ?_;refine aU ?_;refine xp rfl (bT rfl rfl i rfl ha) ?_;refine aa ?_;refine xp rfl (aA rfl (hrow 1 _ rfl)) ?_;refine xo rfl (kI [_]) ?_;rintro _ g1 ⟨rfl,hg1⟩;have y1:ah g g1:=by rw[hg1];exact Ext.push _ _ _
   have kr:Lw.rowAt g1 g.size 0 [Fa x.2.1]:=by rw[hg1];exact Gj _ _ _
   have ko1:bF Fa g1 h1.size 9 _ _:=bF.af ko y1;refine xo rfl (bR underlying47 H.Kg rfl rfl ko1 (m:=1) rfl (.inr ⟨_,_,rfl,kr⟩) (fun u hu=>by have q:u=Fa x.2.1:=List.mem_singleton.1 hu;rw[q];rfl) (by rw[htl];omega) (by rw[htl];omega) (by have:=y1.size;omega)) ?_;rintro v2 g2 ⟨ho2,hx2,_,hv2⟩;have ho2:=bF.of (ys:=[x.2.1]) ho2 rfl rfl rfl;have e2:=Ext.own (xg.trans y1) ko1 (Nat.le_refl _) hx2;obtain⟨wa2,wc2,rfl,_⟩:=ay.open ho2;refine aa ?_;exact ih (i+1,_) ⟨hil,by show bF Fa g2 h1.size _ _ ((xs.take (i+1)).map fun e=>e.2.1);rw[List.take_add_one,hx,List.map_append];exact ho2,e2⟩
 · obtain rfl:i=xs.length:=by omega
   rw[List.take_length] at ko ⊢;have hr:=bF.read (h1:=fun _=>rfl) (O:=fun _=>False) ko (fun _ _ q=>q);refine aa ?_;refine xo rfl (aG rfl (uK hr m)) ?_;rintro _ g2 ⟨⟨b,rfl,hb⟩,hg2⟩;refine aa ?_;subst hg2;refine aW ?_;exact⟨_,rfl,⟨b,rfl,fun q=>⟨by have:=(hb q).1;rw[List.length_map] at this;exact this,fun e he=>(hb q).2 _ (List.mem_map_of_mem he)⟩⟩,e1.trans xg⟩
theorem jn.self {n:Int}(k:jn O h b s n):jn (fun y=>y=b\/O y) h b s n:=by
 obtain⟨h0,lb,tv,sv,pv,kG,kL,k3,hb0,kd,ht,hs,hp⟩:=k;have m:Mv (fun x=>x=b\/O x) (fun x=>x=b\/(x=b\/O x)) h h:=Mv.dI (av (fun _=>False) h) fun y _ hn=>⟨fun q=>q,fun q=>q.elim (fun q=>hn (.inl q)) hn⟩
 exact⟨h0,lb,tv,sv,pv,kG,kL.mv m,k3,⟨hb0.1,fun y q=>q.elim (fun q=>q▸hb0.1) (hb0.2 y)⟩,kd,ht.mv m,hs.mv m,hp.mv m⟩
theorem nE.lower {base':Nat}(k:nE Z base h eb e) (hb:base'<=base):nE Z base' h eb e:=by
 obtain⟨_,_,_,_,_,_,_,_,_,_,k⟩:=k;exact⟨_,_,_,_,_,_,_,_,_,_,{ k with low:=fun y q=>Nat.le_trans hb (k.low y q) }⟩
theorem CL (hg:BM h):aj Tryz.prog 65 #[] h (aN fun r h'=>(∃eb:Nat,r= .pointer (some ⟨eb,0,none⟩)/\nE MX h.size h' eb lT)/\ah h h'):=by
 refine bf ?_;refine aa ?_;refine xo rfl (aG rfl (Ck (Z:=MX) (fun _ q=>q.elim))) ?_;rintro _ h1 ⟨⟨tv,rfl,kt⟩,e1⟩;obtain⟨bt,vt,lt,rfl,_⟩:=id kt;obtain⟨⟨lim,hl,hs⟩,hten,hru,_,_⟩:=(hg.af e1)
 refine aa ?_;refine xp rfl (au (H.Jj _) rfl) ?_;refine aa ?_;refine xo rfl (aG rfl (BZ kt 0)) ?_;rintro _ h2 ⟨⟨ub,rfl,hub,ku⟩,e2⟩;obtain⟨⟨lim,hl,hs⟩,hten,hru,_,_⟩:=((hg.af e1).af e2)
 refine xo rfl (aG rfl (Co hs hl hten hru)) ?_;rintro lp h3 ⟨kL,e3⟩;have z1:=e1.size;have z2:=e2.size;have z3:=e3.size;have e03:=(e1.trans e2).trans e3;have hnew:=yD (h00:=h) (h:=h3) (Z:=fun y=>h.size<=y/\y<h2.size) hg e03 (fun y q=>⟨q.1,by omega⟩) (kL.mv (Mv.dI (av (fun _=>False) h3) fun y _ q=>⟨fun q=>q,fun q2=>q q2.2⟩)) [] (by decide);obtain⟨lb,vm,rfl,_⟩:=id kL;refine xo rfl (aG rfl hnew) ?_;rintro _ h4 ⟨⟨db,rfl,hdb,kd⟩,e4⟩;refine xp rfl (au (H.vq _ _ _ _ _ _ _ _ _ _ _ _ _ _ _ _ _ _ _ _ _ _) rfl) ?_;refine xo rfl (cM) ?_;rintro _ h5 ⟨rfl,k5,e5,z5⟩;refine aa ?_;refine aW ?_;have kub:ub<h2.size:=by obtain⟨_,kk,_⟩:=ku.blk;exact kk.lt
 have z4:=e4.size;have kdl:db<h4.size:=by obtain⟨_,_,_,_,_,_,_,_,_,kk,_⟩:=id kd;exact kk.lt
 have k5:az h5 h4.size 181 (Pj lT.s (.slice none 0 0) (.slice none 0 0) (.slice none 0 0) (.slice none 0 0) (.pointer (some ⟨bt,0,none⟩)) ub db):=k5;refine⟨_,rfl,⟨h4.size,rfl,db,ub,.slice none 0 0,.slice none 0 0,_,_,_,_,_,0,k5,(((kt.mv (Mv.LF e2)).mv (Mv.LF e3)).mv (Mv.LF e4)).mv (Mv.LF e5),((ku.af e3).af e4).af e5,kd.self.grow e5 (fun y q=>?_),⟨aR.nil _ _ _,aR.nil _ _ _,aR.nil _ _ _,aR.nil _ _ _⟩,fun y q=>?_,fun _ q=>q.elim⟩,(e03.trans e4).trans e5⟩
 · rcases q with q|q|(q|q|q)|q
   · exact .inr (by omega)
   · exact .inl (.inl q)
   · exact .inl (.inr ⟨by omega,by omega⟩)
   · cases q
   · cases q
   · exact q.elim
 · rcases q with q|q|(q|q|q)|q
   · omega
   · omega
   · omega
   · cases q
   · cases q
   · exact q.elim
def JI (n:Nat):List Tk:=if n=0 then [] else [(3,0,1)]
abbrev MF (n:Nat):List Value:=(List.replicate n ()).flatMap fun _=>uA
theorem wU (hn:n<=1):(JI n).length=n:=by unfold JI;split<;>simp_all;omega
theorem rE (s:ByteArray) (a b:Int):aj Tryz.prog 304 #[.string s,.agg (iU (3,a,b)).toArray] h (aN fun r h'=>r= .int .u8 0/\ah h h'):=by
 refine bf ?_;refine aa ?_;refine xo rfl (cM) ?_;rintro _ h1 ⟨rfl,k1,e1,z1⟩;have k1:az h1 h.size 308 (iU (3,a,b)):=k1;refine aU ?_;refine bJ ?_
 iterate 2 refine aI ?_
 refine dM [(32,.bool true)] rfl ?_ ?_
 · refine aa ?_;refine xp rfl (aA rfl (k1.cell (i:=0) rfl)) ?_;refine aa ?_;refine RW.aO (d:=8) (b':=true) rfl (rfl) ?_;refine aa ?_;refine xp rfl (aA rfl (k1.cell (i:=0) rfl)) ?_;refine aa ?_;refine RW.aO (d:=13) (b':=true) rfl (rfl) ?_;refine aa ?_;exact aL rfl ⟨ak rfl (rfl),sb rfl⟩
 · refine fH rfl (by decide) ?_;refine aa ?_;refine aW ?_;exact⟨_,rfl,rfl,e1⟩
theorem zJ {s:ByteArray}(kw:az h wb 402 [.string s,v]) (a b:Int):aj Tryz.prog 277 #[.pointer (some ⟨wb,0,none⟩),.agg (iU (3,a,b)).toArray] h (aN fun r h'=>r= .tuple #[.int .i64 (-1),.bool true]/\ah h h'):=by
 refine bf ?_;refine aa ?_;refine xo rfl (cM) ?_;rintro _ h1 ⟨rfl,k1,e1,z1⟩;have k1:az h1 h.size 308 (iU (3,a,b)):=k1;have hM:¬Array.size h1<=wb:=by have:=kw.lt;omega
 have hM1:¬Array.size h1<=h.size:=by omega
 refine aa ?_;refine ic 7 7 ?_;refine ax 0 ?_;refine ax 1 ?_;refine ax 2 ?_;refine aS 3 rfl (fun h' e=>aA rfl (e.cell hM ((kw.af e1).cell (i:=0) rfl))) ?_;refine aS 4 rfl (fun h' e=>bI rfl (e.rowAt hM1 k1.row)) ?_;refine ct 5 rfl (aG rfl (rE s a b)) ?_;rintro _ h2 ⟨rfl,e2⟩;refine⟨fun _=>e2.of,?_⟩;refine ax 6 ?_;refine dP ?_;refine aa ?_;refine fH rfl (by decide) ?_;refine aa ?_;refine aW ?_;exact⟨_,rfl,rfl,e1.trans e2⟩
theorem wS (s:ByteArray) (hn:n<=1){tv:Value}(ht:aR Il h O tv (JI n)) (at_:Int):aj Tryz.prog 225 #[.string s,tv,.int .i64 at_] h (aN fun r h'=>r= .tuple #[.int .i64 0,.bool false]/\ah h h'):=by
 obtain⟨ta,tn,tc,rfl,hts⟩:=id ht.open;have hl:(JI n).length=tn:=hts.len;rw[wU hn] at hl;subst hl;refine bf ?_;refine aa ?_;refine xp rfl (au (H.Je _) rfl) ?_;refine xo rfl (cM) ?_;rintro _ h1 ⟨rfl,kw,e1,z1⟩;have kw:az h1 h.size 402 [.string s,.slice none 0 0]:=kw;refine aa ?_;refine eR (σ:=Nat) (fun k=>[(6,.int .i64 0),(7,.bool false),(18,.int .i64 (k:Nat))]) (fun k g=>k<=n/\ah h1 g) (fun k=>n-k) (0) ⟨Nat.zero_le _,av _ _⟩ rfl ?_;rintro k g ⟨hk,eg⟩ ih;refine aa ?_;refine aQ (fun hlt=>?_) (fun hlt=>?_)
 · obtain rfl:n=1:=by omega
   obtain rfl:k=0:=by omega
   have e0g:=e1.trans eg;obtain⟨bb,o,x,ha,_,hx,hrow⟩:=(ht.af e0g).open_slice.fC (i:=0) (by omega);obtain rfl:x=(3,0,1):=(Option.some.inj hx).symm
   iterate 4 refine aI ?_
   refine bU ?_;refine xp rfl (bT rfl rfl 0 rfl ha) ?_;refine xp rfl (bI rfl hrow) ?_;refine xo rfl (cC) ?_;rintro _ g2 ⟨rfl,k2,e2,z2⟩;refine aY rfl (bM rfl rfl k2 ((rC (3,0,1)))) ?_;rintro _ g3 ⟨rfl,k3,x3,z3⟩;refine aa ?_;have k3:az g3 g.size 308 (iU (3,0,1)):=k3;have e3:ah g g3:=ah.only e2 x3 (Nat.le_refl _);refine xp rfl (bI rfl k3.row) ?_;refine xo rfl (aG rfl (zJ (kw.af (eg.trans e3)) 0 1)) ?_;rintro _ g4 ⟨rfl,e4⟩;refine aa ?_;refine bV rfl (by decide) ?_;refine aI ?_;refine dM [(31,.bool false)] rfl ?_ ?_
   · refine aa ?_;refine RW.aO (d:=34) (b':=false) rfl (by decide) ?_;refine aa ?_;exact aL rfl ⟨ak rfl (rfl),sb rfl⟩
   · refine bV rfl (by decide) ?_;refine aI ?_;refine dM [(41,.bool false)] rfl ?_ ?_
     · refine aa ?_;refine RW.aO (d:=44) (b':=false) rfl (by decide) ?_;refine aa ?_;exact aL rfl ⟨ak rfl (rfl),sb rfl⟩
     · refine bV rfl (by decide) ?_
       iterate 3 refine aI ?_
       refine bU ?_;refine xp rfl (an.dZ rfl rfl ⟨by decide,by decide⟩) ?_;refine aa ?_;exact ih 1 ⟨Nat.le_refl _,(eg.trans e3).trans e4⟩ Nat.zero_lt_one
 · refine aa ?_;refine aW ?_;exact⟨_,rfl,rfl,e1.trans eg⟩
theorem Eo:aj Tryz.prog 278 #[.int .i64 3] h (aN fun r h'=>r=F7/\ah h h'):=by
 refine bf ?_;refine aa ?_;refine xo rfl (cC) ?_;rintro _ h1 ⟨rfl,k1,e1,z1⟩;have k1:az h1 h.size 56 uA:=k1;refine aa ?_;refine bV rfl (by decide) ?_;refine aa ?_;refine bV rfl (by decide) ?_;refine aa ?_;refine bV rfl (by decide) ?_;refine aa ?_;refine bV rfl (by decide) ?_;refine aa ?_;refine bV rfl (by decide) ?_;refine aa ?_;refine bV rfl (by decide) ?_;refine aa ?_;refine bV rfl (by decide) ?_;refine aa ?_;refine bV rfl (by decide) ?_;refine aa ?_;refine bV rfl (by decide) ?_;refine aa ?_;refine xp rfl (au (H.qu ) rfl) ?_;refine aY rfl (bM rfl rfl k1) ?_;rintro _ h2 ⟨rfl,k2,x2,z2⟩;refine aa ?_;refine fG (fT rfl k2.row fF) ?_;exact⟨_,rfl,rfl,ah.only e1 x2 (Nat.le_refl _)⟩
theorem GN:∀n:Nat,n<=1->(madeCells F7.cells (n*4)).toList=MF n
 | 0,_=>by simp[madeCells]
 | 1,_=>by simp[madeCells,Value.cells];rfl
 |_+2,h=>by omega
theorem B3 (hn:s.length<=1){tv:Value}(ht:aR Il h O tv (JI s.length)):aj Tryz.prog 226 #[.string (bs s),tv,.slice none 0 0] h (aN fun r h'=>aR I3 h' (fun b=>b<h.size) r (List.replicate s.length ())/\ah h h'):=by
 obtain⟨ta,tn,tc,rfl,hts⟩:=id ht.open;have hl:(JI s.length).length=tn:=hts.len;rw[wU hn] at hl;subst hl;have hbs:=aC s;refine bf ?_;refine aa ?_;refine xo rfl (aH.sD underlying183 H.Pe H.LV rfl rfl (n:=s.length) (by omega) (by omega) (by decide)) ?_;rintro _ h3 ⟨rfl,kr,e3,z3⟩;refine aa ?_;have kr:az h3 h.size 56 (MF s.length):=by rw[<-GN _ hn];exact kr
 refine eR (σ:=Nat) (fun k=>[(18,.int .i64 (k:Nat))]) (fun k g=>k<=s.length/\az g h.size 56 (MF s.length)/\Ext (fun b=>b=h.size) h3 g) (fun k=>s.length-k) (0) ⟨Nat.zero_le _,kr,av _ _⟩ rfl ?_;rintro k g ⟨hk,kg,xg⟩ ih;refine aa ?_;refine aQ (fun hlt=>?_) (fun hlt=>?_)
 · have hs1:s.length=1:=by omega
   obtain rfl:k=0:=by omega
   have e0g:=ah.only e3 xg (Nat.le_refl _);obtain⟨bb,o,x,ha,_,hx,hrow⟩:=(ht.af e0g).open_slice.fC (i:=0) (by omega);rw[hs1] at hx;obtain rfl:x=(3,0,1):=(Option.some.inj hx).symm
   iterate 4 refine aI ?_
   refine bU ?_;refine xp rfl (bT rfl rfl 0 rfl ha) ?_;refine xp rfl (bI rfl hrow) ?_;refine xo rfl (cC) ?_;rintro _ g2 ⟨rfl,k2,e2,z2⟩;refine aY rfl (bM rfl rfl k2 ((rC (3,0,1)))) ?_;rintro _ g3 ⟨rfl,k3,x3,z3⟩;refine aa ?_;have k3:az g3 g.size 308 (iU (3,0,1)):=k3;have e23:ah g g3:=ah.only e2 x3 (Nat.le_refl _);have zg:=xg.size;refine xp rfl (aA rfl (k3.cell (i:=1) rfl)) ?_;refine aa ?_;refine eR (σ:=Nat) (fun i=>[(10,.int .i64 (i:Nat))]) (fun i g'=>i<=1/\az g' h.size 56 (MF s.length)/\Ext (fun b=>b=h.size) g3 g') (fun i=>1-i) (0) ⟨Nat.zero_le _,kg.af e23,av _ _⟩ rfl ?_;rintro i g4 ⟨hi,k4,x4⟩ ih2;have k34:=k3.ext x4 (by omega);refine aa ?_;refine xp rfl (aA rfl (k34.cell (i:=2) rfl)) ?_;refine aa ?_;refine aQ (fun hlt2=>?_) (fun hlt2=>?_)
   · obtain rfl:i=0:=by
      have q:=hlt2;rw[aC,hs1] at q;have q:((i:Nat):Int)<1:=q;omega
     refine aa ?_;refine xp rfl (aA rfl (k34.cell (i:=0) rfl)) ?_;refine xo rfl (aG rfl Eo) ?_;rintro _ g5 ⟨rfl,e5⟩;refine xp rfl (bT rfl rfl 0 rfl rfl) ?_;refine aY rfl (bM rfl rfl ((k4.af e5)) ((fun v hv=>by simp at hv;rcases hv with rfl|rfl<;>rfl))) ?_;rintro _ g6 ⟨rfl,k6,x6,z6⟩;refine bJ ?_;refine aI ?_;refine bU ?_;refine aU ?_;refine xp rfl (an.dZ rfl rfl ⟨by decide,by decide⟩) ?_;refine aa ?_;have k6:az g6 h.size 56 (MF s.length):=by rw[hs1] at k6 ⊢;exact k6
     exact ih2 1 ⟨Nat.le_refl _,k6,(x4.trans (e5.mono fun _ _ q=>q.elim)).trans x6⟩ Nat.zero_lt_one
   · iterate 2 refine aI ?_
     refine bU ?_;refine xp rfl (an.dZ rfl rfl ⟨by decide,by decide⟩) ?_;refine aa ?_;exact ih 1 ⟨by omega,k4,xg.trans ((e23.mono fun _ _ q=>q.elim).trans x4)⟩
 · refine aa ?_;refine eR (σ:=Nat) (fun k2=>[(43,.int .i64 0)]) (fun k2 g'=>g'=g) (fun k2=>0) (0) rfl rfl ?_;rintro k2 g' hg' ih2;subst hg';refine aa ?_;refine bV rfl (by decide) ?_;refine aa ?_;refine aW ?_;exact⟨_,rfl,nM (O:=fun b=>b<h.size) (Nat.lt_irrefl _) kg.row (by simp) (by simp only[maxLen];omega),ah.only e3 xg (Nat.le_refl _)⟩
structure Ei (B:Nat) (e:Lz):Prop where
 mode:e.s.mode=0
 len:e.s.text.length<=1
 pr:LM e.s.text
 cur:e.s.cur=(e.s.text.length:Nat)
 tok:(BB e.s.text).1=JI e.s.text.length
 mi:MI B e.s
 hB:B<=5000000
theorem uL (k:nE Z base h eb e) (S:Ei B e) :
 aj Tryz.prog 160 #[.pointer (some ⟨eb,0,none⟩)] h (aN fun r h'=>aR I3 h' (fun b=>b<h.size) r (List.replicate e.s.text.length ())/\ah h h'):=by
 obtain⟨db,ub,wv,gv,tv,rv,hv,lv,fv,m,K⟩:=k;have hln:=S.len;refine bf ?_;refine aa ?_;refine xo rfl (aG rfl (Bb K.blk)) ?_;rintro _ h1 ⟨rfl,hh1⟩;refine aa ?_;obtain rfl:=hh1.symm;refine bV rfl (by decide) ?_;refine aa ?_;refine xp rfl (aA rfl (K.blk.cell (i:=21) rfl)) ?_;refine xo rfl (aG rfl (wR K.doc (by rw[S.tok,wU hln];omega))) ?_;rintro r2 h2 ⟨k2,e2⟩;rw[S.tok] at k2;have kt:aR Il h2 (fun _=>False) r2 (JI e.s.text.length):=eP.read k2 (fun _ _ q=>q);have K2:=K.af e2;have hM:¬Array.size h2<=eb:=by have:=K2.blk.lt;omega
 refine aa ?_;refine ic 17 17 ?_;refine ax 0 ?_;refine ax 1 ?_;refine ax 2 ?_;refine ax 3 ?_;refine aS 4 rfl (fun h' e=>aA rfl (e.cell hM (K2.blk.cell (i:=0) rfl))) ?_;refine ax 5 ?_;refine ax 6 ?_;refine ax 7 ?_;refine ax 8 ?_;refine ax 9 ?_;refine aS 10 rfl (fun h' e=>aA rfl (e.cell hM (K2.blk.cell (i:=1) rfl))) ?_;refine ct 11 rfl (aG rfl (wS _ hln kt _)) ?_;rintro _ h3 ⟨rfl,e3⟩;refine⟨fun _=>e3.of,?_⟩;refine ax 12 ?_;refine ax 13 ?_;refine ax 14 ?_;refine ax 15 ?_;refine ax 16 ?_;refine dP ?_;refine aa ?_;refine bV rfl (by decide) ?_;refine aa ?_;refine xp rfl (aA rfl ((K2.af e3).blk.cell (i:=0) rfl)) ?_;refine aa ?_;refine xo rfl (aG rfl (B3 hln (kt.af e3))) ?_;rintro v4 h4 ⟨k4,e4⟩;refine aa ?_;refine aW ?_;have z2:=e2.size;have z3:=e3.size;exact⟨_,rfl,k4.mv (Mv.dI (av (fun _=>False) h4) fun b _ ho=>⟨fun q=>q,by omega⟩),(e2.trans e3).trans e4⟩
def KD (db eb g:Nat) (c:Int):List Value:=[.pointer (some ⟨db,0,none⟩),.pointer (some ⟨eb,0,none⟩)]++cy 4 20 (xl g) 0 c
abbrev KR:By:=[62,32]
theorem P6 {pr mo:By}{st:Value}(hs:st.oneCell'=true):∀v∈BX s st c pr mo,v.oneCell'=true:=fun v hv=>by simp[BX] at hv;rcases hv with rfl|rfl|rfl|rfl|rfl<;>first|rfl|exact hs
theorem zE {db g:Nat}(kw:az h wb 134 (KD db eb g c)) (k:nE Z base h eb e) (S:Ei B e) :
 aj Tryz.prog 110 #[.pointer (some ⟨wb,0,none⟩)] h (aN fun r h'=>(∃st,r= .agg (BX e.s.text st (e.s.text.length:Nat) KR [46,32]).toArray/\aR I3 h' (fun _=>False) st (List.replicate e.s.text.length ()))/\ah h h'):=by
 have hln:=S.len;refine bf ?_;refine aa ?_;refine xo rfl (cC) ?_;rintro _ h1 ⟨rfl,k2,e1,z1⟩;refine aa ?_;refine xp rfl (aA rfl ((kw.af e1).cell (i:=1) rfl)) ?_;refine xo rfl (aG rfl (zZ (k.af e1) S.mi S.hB)) ?_;rintro _ h2 ⟨⟨xa,xn,xc,ya,yn,yc,za,zn,zc,ua,un,uc,rfl⟩,e2⟩;refine xo rfl (cC) ?_;rintro _ h3 ⟨rfl,k3,e3,z3⟩;refine aY rfl (bM rfl rfl k3 ms1) ?_;rintro _ h4 ⟨rfl,k4,x4,z4⟩;have e24:ah h2 h4:=ah.only e3 x4 (Nat.le_refl _);have k4:az h4 h2.size 169 (M3 e.s (.slice xa xn xc) (.slice ya yn yc) (.slice za zn zc) (.slice ua un uc)):=k4;have e04:=(e1.trans e2).trans e24;have kw4:=kw.af e04;have ke4:=k.af e04;have k24:az h4 h.size 185 (BX [] (.slice none 0 0) 0 [] []):=(k2.af e2).af e24;have z2:=e2.size;have z24:=e24.size;have z1':=e1.size;have hMw:¬Array.size h4<=wb:=by have:=kw4.lt;omega
 have hMs:¬Array.size h4<=h2.size:=by have:=k4.lt;omega
 have hsty:=fun {h:ai}(k:nE Z base h eb e)=>uL k S
 refine bJ ?_;refine aI ?_;refine Ej 12 (fun b=>Array.size h4<=b) (fun i=>Nat.blt i 11) (fun(w:Value×Nat) (h':ai)=>aR I3 h' (fun b=>b<h4.size) w.1 (List.replicate e.s.text.length ())/\az h' w.2 185 (BX e.s.text w.1 e.s.cur KR [46,32])/\h4.size<=w.2/\ah h4 h') (fun(w:Value×Nat)=>[(4,.pointer (some ⟨w.2,0,none⟩))]) rfl ?_ ?_
 · refine ax 0 ?_;refine aS 1 rfl (fun h' e=>aA rfl (e.cell hMs (k4.cell (i:=0) rfl))) ?_;refine ax 2 ?_;refine ax 3 ?_;refine ax 4 ?_;refine aS 5 rfl (fun h' e=>aA rfl (e.cell hMw (kw4.cell (i:=1) rfl))) ?_;refine ax 7 ?_;refine aS 8 rfl (fun h' e=>aA rfl (e.cell hMs (k4.cell (i:=1) rfl))) ?_;refine LB 6 10 rfl rfl (aG rfl (hsty ke4)) (cC) ?_ ?_
   · rintro st g1 ⟨ks,e5⟩;refine⟨fun _=>e5.of,?_⟩;obtain⟨sa,sn,sc,rfl,_⟩:=id ks.open;refine aS 9 rfl (fun h' e=>au (H.kV _ _ _ _ _ _ _) rfl) ?_;refine ct 10 rfl (cC) ?_;rintro _ g2 ⟨rfl,kn,e6,z6⟩;refine⟨fun _=>e6.of,?_⟩;refine eK 11 rfl (bM rfl rfl kn) ?_;rintro _ g3 ⟨rfl,k7,x7,z7⟩;refine⟨nofun,?_⟩;have e13:ah g1 g3:=ah.only e6 x7 (Nat.le_refl _);exact qz (.slice sa sn sc,g1.size) ⟨ks.af e13,k7,e5.size,e5.trans e13⟩
   · rintro _ g1 ⟨rfl,kn,e5,z5⟩;refine⟨fun _=>e5.of,?_⟩;refine ct 6 rfl (aG rfl (hsty (ke4.af e5))) ?_;rintro st g2 ⟨ks,e6⟩;refine⟨fun _=>e6.of,?_⟩;obtain⟨sa,sn,sc,rfl,_⟩:=id ks.open;refine aS 9 rfl (fun h' e=>au (H.kV _ _ _ _ _ _ _) rfl) ?_;refine eK 11 rfl (bM rfl rfl ((kn.af e6))) ?_;rintro _ g3 ⟨rfl,k7,x7,z7⟩;refine⟨nofun,?_⟩;exact qz (.slice sa sn sc,h4.size) ⟨ks.mv (Mv.dI x7 fun b _ ho=>⟨by omega,by omega⟩),k7,Nat.le_refl _,ah.only (e5.trans e6) x7 (Nat.le_refl _)⟩
 · rintro⟨st,vb⟩ h5 ⟨ks,kv,hvb,e5⟩;have ks:aR I3 h5 (fun b=>b<h4.size) st (List.replicate e.s.text.length ()):=ks;have kv:az h5 vb 185 (BX e.s.text st e.s.cur KR [46,32]):=kv;rw[S.cur] at kv;obtain⟨sa,sn,sc,rfl,_⟩:=id ks.open;refine aa ?_;refine xp rfl (aA rfl ((k4.af e5).cell (i:=2) rfl)) ?_;refine aa ?_;refine bV rfl (by rw[S.mode];decide) ?_;refine aa ?_;refine bV rfl (by rw[S.mode];decide) ?_;refine aa ?_;refine bV rfl (by rw[S.mode];decide) ?_;refine aa ?_;refine xp rfl (bI rfl kv.row) ?_;refine aY rfl (bM rfl rfl ((k24.af e5)) ((P6 rfl))) ?_;rintro _ h6 ⟨rfl,k6,x6,z6⟩;refine aa ?_;have k6:az h6 h.size 185 (BX e.s.text (.slice sa sn sc) (e.s.text.length:Nat) KR [46,32]):=k6;refine fG (fT rfl k6.row fF) ?_;exact⟨_,rfl,⟨_,rfl,ks.mv (Mv.dI x6 fun b _ ho=>⟨by omega,fun q=>q⟩)⟩,ah.only (e04.trans e5) x6 (Nat.le_refl _)⟩
abbrev rN (e:Lz):List Nat:=rY (FE (KR++e.s.text))
theorem zF {db g c:Nat}{xs:List Nat}(hW:jH h) (kw:az h wb 134 (KD db eb g (c:Nat))) (k:nE Z base h eb e) (S:Ei B e) (kS:qI h g xs) (px:Pr xs) (py:Pr (rN e)) (hn:(KR++e.s.text).length=n)
 {i0 r:Nat}(hi0:i0<19) (hr:(rN e)[i0]? =some r) (hne:xs[i0]? ≠some r) (hsame:∀j,j≠i0->xs[j]? =(rN e)[j]?) (hcn:c≠n) (hc:c<20) (l1:(Lib.itoa ((i0:Nat)+1)).length<=100) (l2:(Lib.itoa ((n:Nat)+1)).length<=100) :
 aj Tryz.prog 66 #[.pointer (some ⟨wb,0,none⟩)] h (aN fun q h'=>∃g',q= .string (bs (rX i0 r n))/\az h' wb 134 (KD db eb g' (n:Nat))/\h.size<=g'/\qI h' g' (rN e)/\Ext (fun b=>b=wb) h h'):=by
 have hln:=S.len;have hn3:n<=3:=by rw[<-hn];simp;omega
 have hM:¬Array.size h<=wb:=by have:=kw.lt;omega
 have hview:=fun {h:ai}(kw:az h wb 134 (KD db eb g (c:Nat))) (k:nE Z base h eb e)=>zE kw k S
 have hfr:=fun {h:ai}(hW:jH h){st:Value}(ks:aR I3 h (fun _=>False) st (List.replicate e.s.text.length ()))=>A3 (pr:=KR) (mo:=[46,32]) hW ks S.pr (by decide) hn (by omega)
 refine bf ?_;refine aI ?_;refine bU ?_;refine aU ?_;refine bJ ?_;refine aI ?_;refine Ej 19 (fun b=>Array.size h<=b) (fun i=>Nat.blt i 17) (fun(w:Nat×Nat) (h':ai)=>qI h' w.1 (rN e)/\h.size<=w.1/\az h' w.2 41 (cy 4 20 (xl w.1) 0 (n:Nat))/\h.size<=w.2/\ah h h') (fun(w:Nat×Nat)=>[(3,.pointer (some ⟨w.2,0,none⟩)),(4,.int .i64 0)]) rfl ?_ ?_
 · refine ax 0 ?_;refine ax 2 ?_;refine ax 3 ?_;refine ax 4 ?_;refine ax 5 ?_;refine aS 6 rfl (fun h' e=>aA rfl (e.cell hM (kw.cell (i:=2) rfl))) ?_;refine ax 7 ?_;refine ax 8 ?_;refine ax 9 ?_;refine ax 10 ?_;refine aS 11 rfl (fun h' e=>aA rfl (e.cell hM (kw.cell (i:=3) rfl))) ?_;refine LB 1 16 rfl rfl (aG rfl (hview kw k)) (cC) ?_ ?_
   · rintro _ g1 ⟨⟨st,rfl,ks⟩,e1⟩;refine⟨fun _=>e1.of,?_⟩;refine LB 12 16 rfl rfl (aG rfl (hfr (hW.af e1) ks)) (cC) ?_ ?_
     · rintro _ g2 ⟨⟨gf,rfl,hgf,kf⟩,e2⟩;refine⟨fun _=>e2.of,?_⟩;refine ax 13 ?_;refine ax 14 ?_;refine RD.bq 15 (listed':= #[true,true,true,true,true,true,true,true,true,true,true,true,true,true,true,true,false,false,false]) rfl (by kernel_rfl) (by kernel_rfl) (by kernel_rfl) rfl rfl rfl (fun _=>an.extract rfl rfl) rfl ?_;refine ct 16 rfl (cC) ?_;rintro _ g3 ⟨rfl,kn,e3,z3⟩;refine⟨fun _=>e3.of,?_⟩;refine eK 17 rfl (bM rfl rfl kn ((jw rfl))) ?_;rintro _ g4 ⟨rfl,k4,x4,z4⟩;refine⟨nofun,?_⟩;refine ax 18 ?_;have z1:=e1.size;have z2:=e2.size;have hgl:=kf.blk.lt;exact qz (gf,g2.size) ⟨(kf.af e3).Ba x4 (by omega),by omega,k4,by omega,(e1.trans e2).trans (ah.only e3 x4 (Nat.le_refl _))⟩
     · rintro _ g2 ⟨rfl,kn,e2,z2⟩;refine⟨fun _=>e2.of,?_⟩;refine ct 12 rfl (aG rfl (hfr (hW.af (e1.trans e2)) (ks.af e2))) ?_;rintro _ g3 ⟨⟨gf,rfl,hgf,kf⟩,e3⟩;refine⟨fun _=>e3.of,?_⟩;refine ax 13 ?_;refine ax 14 ?_;refine RD.bq 15 (listed':= #[true,true,true,true,true,true,true,true,true,true,true,true,true,true,true,true,true,false,false]) rfl (by kernel_rfl) (by kernel_rfl) (by kernel_rfl) rfl rfl rfl (fun _=>an.extract rfl rfl) rfl ?_;refine eK 17 rfl (bM rfl rfl ((kn.af e3)) ((jw rfl))) ?_;rintro _ g4 ⟨rfl,k4,x4,z4⟩;refine⟨nofun,?_⟩;refine ax 18 ?_;have z1:=e1.size;exact qz (gf,g1.size) ⟨kf.Ba x4 (by omega),by omega,k4,by omega,e1.trans (ah.only (e2.trans e3) x4 (Nat.le_refl _))⟩
   · rintro _ g1 ⟨rfl,kn,e1,z1⟩;refine⟨fun _=>e1.of,?_⟩;refine ct 1 rfl (aG rfl (hview (kw.af e1) (k.af e1))) ?_;rintro _ g2 ⟨⟨st,rfl,ks⟩,e2⟩;refine⟨fun _=>e2.of,?_⟩;refine ct 12 rfl (aG rfl (hfr (hW.af (e1.trans e2)) ks)) ?_;rintro _ g3 ⟨⟨gf,rfl,hgf,kf⟩,e3⟩;refine⟨fun _=>e3.of,?_⟩;refine ax 13 ?_;refine ax 14 ?_;refine RD.bq 15 (listed':= #[true,true,true,true,true,true,true,true,true,true,true,true,true,true,true,true,true,false,false]) rfl (by kernel_rfl) (by kernel_rfl) (by kernel_rfl) rfl rfl rfl (fun _=>an.extract rfl rfl) rfl ?_;refine eK 17 rfl (bM rfl rfl (((kn.af e2).af e3)) ((jw rfl))) ?_;rintro _ g4 ⟨rfl,k4,x4,z4⟩;refine⟨nofun,?_⟩;refine ax 18 ?_;have z2:=e2.size;exact qz (gf,h.size) ⟨kf.Ba x4 (by omega),by omega,k4,Nat.le_refl _,ah.only ((e1.trans e2).trans e3) x4 (Nat.le_refl _)⟩
 · rintro⟨gf,fb⟩ h1 ⟨kf,hgf,k3,hfb,e1⟩;have kf:qI h1 gf (rN e):=kf;have hgf:h.size<=gf:=hgf;have hfb:h.size<=fb:=hfb;have k3:az h1 fb 41 (cy 4 20 (xl gf) 0 (n:Nat)):=k3;refine aa ?_;refine bV rfl (by decide) ?_;have kw1:=kw.af e1;have hM1:¬Array.size h1<=wb:=by have:=kw1.lt;omega
   have hM3:¬Array.size h1<=fb:=by have:=k3.lt;omega
   have kwf:Lw.rowAt h1 wb (0+2) (cy 4 20 (xl g) 0 (c:Nat)):=fun j v hv=>by
    match j,hv with
    | 0,hv=>cases hv;exact kw1.cell (i:=2) rfl
    | 1,hv=>cases hv;exact kw1.cell (i:=3) rfl
    | 2,hv=>cases hv;exact kw1.cell (i:=4) rfl
    | 3,hv=>cases hv;exact kw1.cell (i:=5) rfl
    | 4,hv=>cases hv;exact kw1.cell (i:=6) rfl
   refine aa ?_;refine ic 7 7 ?_;refine ax 0 ?_;refine ax 1 ?_;refine ax 2 ?_;refine aS 3 rfl (fun h' e=>bI rfl (e.rowAt hM1 kwf)) ?_;refine aS 4 rfl (fun h' e=>bI rfl (e.rowAt hM3 k3.row)) ?_;refine ct 5 rfl (aG rfl (Ay (hW.af e1) (kS.af e1) kf px py hi0 hr hne hsame hcn hc (by omega) l1 l2)) ?_;rintro _ h2 ⟨rfl,e2⟩;refine⟨fun _=>e2.of,?_⟩;refine ax 6 ?_;refine dP ?_;refine aa ?_;refine xp rfl (bI rfl (k3.af e2).row) ?_;refine aa ?_;refine aY rfl (bM rfl rfl ((kw1.af e2)) ((jw rfl))) ?_;rintro _ h3 ⟨rfl,k4,x4,z4⟩;refine aa ?_;have k4:az h3 wb 134 (KD db eb gf (n:Nat)):=k4;have hwl:=kw.lt;refine aW ?_;exact⟨_,rfl,gf,rfl,k4,hgf,(kf.af e2).Ba x4 (by omega),((e1.trans e2).mono fun _ _ q=>q.elim).trans x4⟩
theorem KZ:MI 0 lT.s:=⟨by decide,by decide,by decide,by decide,(fun _ h=>nomatch h),by decide,(fun _ h=>nomatch h),by decide,(fun _ h=>nomatch h),by decide,by decide,by decide,by decide,by decide,by decide,by decide,by decide⟩
theorem OT:Ei 0 lT:=⟨rfl,by decide,(fun _ h=>nomatch h),rfl,by decide +kernel,KZ,by decide⟩
theorem Gd:Pr (List.replicate 80 32)/\Pr (rN lT)/\True/\(rN lT)[0]? =some 62/\True/\True/\(Lib.itoa ((0:Nat)+1)).length<=100/\(Lib.itoa ((2:Nat)+1)).length<=100/\True:=by decide +kernel
theorem EA (j:Nat) (hj:j≠0):(List.replicate 80 32)[j]? =(rN lT)[j]? :=by
 have h1:rN lT=(List.replicate 80 32).set 0 62:=by decide +kernel
 rw[h1,List.getElem?_set_ne (Ne.symm hj)]
theorem BW (hW:jH h):aj Tryz.prog 38 #[.int .i64 4,.int .i64 20] h (aN fun r h'=>(∃wb db eb g:Nat,r= .tuple #[.pointer (some ⟨wb,0,none⟩),.string (bs (rX 0 62 2)),.int .i64 0]/\h.size<=wb/\h.size<=g /\
 az h' wb 134 (KD db eb g 2)/\Ib h' db/\nE MX h.size h' eb lT/\qI h' g (rN lT))/\ah h h'):=by
 obtain⟨q1,q2,-,q4,-,-,q7,q8,-⟩:=Gd;refine bf ?_;refine aa ?_;refine xo rfl (aG rfl (sY hW)) ?_;rintro _ h1 ⟨⟨g,rfl,hg,kS⟩,e1⟩;refine aa ?_;refine xo rfl (cC) ?_;rintro _ h2 ⟨rfl,k2,e2,z2⟩;refine aY rfl (bM rfl rfl k2 ((jw rfl))) ?_;rintro _ h3 ⟨rfl,k3,x3,z3⟩;refine aa ?_;have k3:az h3 h1.size 41 (cy 4 20 (xl g) 0 0):=k3;refine bV rfl (by decide) ?_;have e13:ah h1 h3:=ah.only e2 x3 (Nat.le_refl _);have e03:=e1.trans e13;have z1:=e1.size;have z13:=e13.size;have hM:¬Array.size h3<=h1.size:=by have:=k3.lt;omega
 refine aa ?_;refine ic 6 6 ?_;refine aS 2 rfl (fun h' e=>bI rfl (e.rowAt hM k3.row)) ?_;refine ct 0 rfl (aG rfl uI) ?_;rintro _ h4 ⟨rfl,kd,e4⟩;refine⟨fun _=>e4.of,?_⟩;refine ct 1 rfl (aG rfl (CL (hW.af (e03.trans e4)).lx)) ?_;rintro _ h5 ⟨⟨eb,rfl,ke⟩,e5⟩;refine⟨fun _=>e5.of,?_⟩;refine aS 3 rfl (fun h' e=>au (H.Bv _ _ _ _ _ _ _) rfl) ?_;refine ct 4 rfl (cM) ?_;rintro _ h6 ⟨rfl,kw,e6,z6⟩;refine⟨fun _=>e6.of,?_⟩;have kw:az h6 h5.size 134 (KD h3.size eb g ((0:Nat):Int)):=kw;have e36:=(e4.trans e5).trans e6;have e06:=e03.trans e36;have z4:=e4.size;have z5:=e5.size;have ke:nE MX h.size h5 eb lT:=ke.lower (by omega);have hdl:h3.size<h4.size:=az.lt kd;have kd:Ib h5 h3.size:=az.af kd e5;have kS6:=(kS.af e13).af e36;refine ax 5 ?_;refine dP ?_;refine aa ?_;refine xo rfl (aG rfl (zF (hW.af e06) kw (ke.af e6) OT kS6 q1 q2 (n:=2) rfl (i0:=0) (r:=62) (by decide) q4 (by decide) EA (by decide) (by decide) q7 q8)) ?_;rintro _ h7 ⟨g',rfl,kw7,hg',kS7,x7⟩;refine aa ?_;refine aW ?_;have z6':=e06.size;exact⟨_,rfl,⟨h5.size,h3.size,eb,g',rfl,by omega,by omega,kw7,az.ext (az.af kd e6) x7 (by omega),ke.af (ah.only e6 x7 (Nat.le_refl _)),kS7⟩,ah.only e06 x7 (by omega)⟩
theorem CY {rows cols:Int}(k:az h cb 24 (gL rows cols (.slice none 0 0))) (hs:s≠[]):aj Tryz.prog 39 #[.pointer (some ⟨cb,0,none⟩),.string (bs s)] h (aN fun _ h'=>∃v,az h' cb 24 (gL rows cols v)/\eP 4 jy h' h.size 49 v [(1,s,0,0)]/\Ext (fun b=>b=cb) h h'):=by
 have hkl:=k.lt;have s0:(⟨#[]⟩:ByteArray)=bs []:=rfl;refine bf ?_;refine aa ?_;refine fH rfl (by rw[s0];simp[HC,hs]) ?_;refine aa ?_;refine xp rfl (aA rfl (k.cell (i:=2) rfl)) ?_;refine aa ?_;refine xp rfl (au (H.HH _ _) rfl) ?_;refine xo rfl (mz) ?_;rintro _ _ ⟨rfl,rfl⟩;refine xo rfl (aH.dO underlying22 H.Nf rfl rfl ((eP.nil 4 jy h h.size 49)) rfl rfl ((Ke (1,s,0,0))) (by decide) (by decide) (by omega)) ?_;rintro v2 h2 ⟨ho2,hx2,hx2',hv2⟩;have ho2:eP 4 jy h2 h.size 49 v2 [(1,s,0,0)]:=ho2;have e12:ah h h2:=fO hx2;obtain⟨wa,wc,rfl,_⟩:=ay.open ho2;refine aa ?_;refine aY rfl (b7 rfl rfl ((k.af e12))) ?_;rintro _ h3 ⟨rfl,k3,x3,z3⟩;refine aa ?_;refine gE ?_;exact⟨_,rfl,_,k3,ay.ext x3 ho2 (fun b hb q=>by have:=(ay.lt ho2 hb).1;omega),(e12.mono fun _ _ q=>q.elim).trans x3⟩
abbrev zD:Ev:=(1,rX 0 62 2,0,0)
theorem MP:rX 0 62 2≠[]:=by decide +kernel
theorem CV (hW:jH h):aj Tryz.prog 17 #[.int .i64 4,.int .i64 20,.slice none 0 0] h (aN fun r h'=>(∃v,r= .tuple #[.agg (gL 4 20 v).toArray,.int .i64 0]/\aR mu h' (fun _=>False) v [zD])/\ah h h'):=by
 refine bf ?_;refine aa ?_;refine xo rfl (cC) ?_;rintro _ h1 ⟨rfl,k1,e1,z1⟩;have k1:az h1 h.size 24 (gL 0 0 (.slice none 0 0)):=k1;refine aa ?_;refine xo rfl (aG rfl (BW (hW.af e1))) ?_;rintro _ h2 ⟨⟨wb,db,eb,g,rfl,_,_,_,_,_,_⟩,e2⟩;refine aa ?_;refine bV rfl (by decide) ?_;refine aa ?_;refine xp rfl (au (H.HO _ _) rfl) ?_;refine xo rfl (cC) ?_;rintro _ h3 ⟨rfl,k3,e3,z3⟩;refine aY rfl (bM rfl rfl k3) ?_;rintro _ h4 ⟨rfl,k4,x4,z4⟩;have k4:az h4 h2.size 24 (gL 4 20 (.slice none 0 0)):=k4;have e24:ah h2 h4:=ah.only e3 x4 (Nat.le_refl _);have hco:=CY k4 MP;refine aa ?_;refine xo rfl (aG rfl hco) ?_;rintro _ h5 ⟨v,k5,ho,x5⟩;have k15:=((k1.af e2).af e24).ext x5 (by have:=e2.size;omega);have e05:ah h h5:=ah.only ((e1.trans e2).trans e24) x5 (by have:=e2.size;omega);obtain⟨wa,wc,rfl,_⟩:=ay.open ho;have hz4:=e24.size;have hz2:=e2.size;refine aa ?_;refine eR (σ:=Unit) (fun _i=>[(37,.int .i64 0)]) (fun _i g=>g=h5) (fun _i=>0) (()) rfl rfl ?_;rintro _i g hg ih;subst hg;refine aa ?_;refine bV rfl (by decide) ?_;refine aa ?_;refine xp rfl (bI rfl k5.row) ?_;refine aY rfl (bM rfl rfl k15 ((by simp[gL,Value.oneCell']))) ?_;rintro _ h6 ⟨rfl,k6,x6,z6⟩;refine aa ?_;refine fG (fT rfl k6.row (kZ fF)) ?_;exact⟨_,rfl,⟨_,rfl,eP.read (ay.ext x6 ho (fun b hb q=>by have:=(ay.lt ho hb).1;omega)) (fun b hb q=>q)⟩,ah.only e05 x6 (Nat.le_refl _)⟩
abbrev PJ:By:=[99,97,115,116,32,50,32,56,10,119,97,105,116,10]
theorem KA:gN 2 8 [pN]=PJ:=by decide +kernel
theorem AV (hT:kY h) (hv:aR mu h (fun _=>False) v [pN]):aj Tryz.prog 7 #[.agg (gL 2 8 v).toArray] h (aN fun r h'=>r= .tuple #[.string (bs PJ),.int .i64 0]/\ah h h'):=by
 have:=sM hT hv (rows:=2) (cols:=8) (by unfold iM fM;decide +kernel) (fun e he=>by obtain rfl:e=pN:=(by simpa using he);decide) (by decide)
 rwa [KA] at this
abbrev HQ:By:=[99,97,115,116,32,49,32,56,10]
structure LU (h4:ai) (cb ab sb:Nat) (t u:By) (g:ai):Prop where
 c:az g cb 24 (gL 0 0 (.slice none 0 0))
 a:az g ab 3 [.int .i64 0]
 t:t=HQ
 s:az g sb 9 [.string (bs u)]
 x:Ext (fun c=>c=cb\/c=ab\/c=sb) h4 g
theorem LU.st {h4:ai}{ab sb:Nat}{t u u':By}{g1 g2:ai}(k:LU h4 cb ab sb t u g1) (x:Ext (fun c=>c=h4.size+1\/c=sb) g1 g2) (hs:az g2 sb 9 [.string (bs u')]) (h1:cb<sb/\ab<sb/\sb<h4.size):LU h4 cb ab sb t u' g2 :=
 ⟨k.c.ext x (by omega),k.a.ext x (by omega),k.t,hs,⟨Nat.le_trans k.x.size x.size,fun c hc hm=>(x.block c (Nat.lt_of_lt_of_le hc k.x.size) (by omega)).trans (k.x.block c hc hm)⟩⟩
structure LS (h4:ai) (cb ab eb sb:Nat) (g:ai):Prop where
 c:az g cb 24 (gL 0 0 (.slice none 0 0))
 a:az g ab 3 [.int .i64 1]
 e:az g eb 31 [.int .i64 10]
 x:Ext (fun c=>c=cb\/c=ab\/c=sb\/c=eb) h4 g
theorem LS.st {h4:ai}{ab sb:Nat}{g1 g2:ai}(k:LS h4 cb ab eb sb g1) (x:Ext (fun c=>c=h4.size\/c=h4.size+1) g1 g2) (h1:cb<h4.size/\ab<h4.size/\eb<h4.size):LS h4 cb ab eb sb g2 :=
 ⟨k.c.ext x (by omega),k.a.ext x (by omega),k.e.ext x (by omega),⟨Nat.le_trans k.x.size x.size,fun c hc hm=>(x.block c (Nat.lt_of_lt_of_le hc k.x.size) (by omega)).trans (k.x.block c hc hm)⟩⟩
theorem Fx:fo HQ=[HQ]:=by decide
theorem xY (hg:Io h):aj Tryz.prog 18 #[.string (bs HQ)] h (aN fun r h'=>(∃v,r= .tuple #[.agg (gL 0 0 v).toArray,.int .i64 1,.int .i64 10]/\aR mu h' (fun b=>b<h.size) v [])/\ah h h'):=by
 refine bf ?_;refine aa ?_;refine xo rfl (cC) ?_;rintro _ h1 ⟨rfl,c2,e1,z1⟩;refine xo rfl (cC) ?_;rintro _ h2 ⟨rfl,c3,e2,z2⟩;refine xo rfl (cC) ?_;rintro _ h3 ⟨rfl,c4,e3,z3⟩;have c2:az h3 h.size 24 (gL 0 0 (.slice none 0 0)):=(c2.af e2).af e3;have c3:az h3 h1.size 3 [.int .i64 0]:=c3.af e3;have c4:az h3 h2.size 31 [.int .i64 0]:=c4;refine aa ?_;refine xo rfl (aG rfl (AK HQ)) ?_;rintro _ h4 ⟨rfl,ks,e4,z4⟩;have e03:=(e1.trans e2).trans e3;have e04:=e03.trans e4;have hord:h.size<h3.size/\h1.size<h3.size/\h3.size<h4.size:=by omega
 have hord2:h.size<h4.size/\h1.size<h4.size/\h2.size<h4.size:=by omega
 refine aa ?_
 refine G.Gq (assign:=FG (Lw.sub (aq f18) [0,1,0,1])) (body:=FF (Lw.sub (aq f18) [0,1,0,1])) (LU h4 h.size h1.size h3.size [] []) (LS h4 h.size h1.size h2.size h3.size) func18 rfl rfl func71 rfl (by decide +kernel) (fun fid tmps hL hfits eL R0=>?_) (fun g2 g3 hJ _ _ _=>absurd hJ.t (by decide)) (fun g2 g3 hS hlt x=>by
  obtain⟨a1,a2,a3,a6⟩:=hS.st x hord2;exact⟨_,.cons (cX.row (t:=24) (by kernel_rfl) (by kernel_rfl) rfl a1.row) (.cons (cX.cell (t:=3) (by kernel_rfl) rfl (a2.cell (i:=0) rfl)) (.cons (cX.cell (t:=31) (by kernel_rfl) rfl (a3.cell (i:=0) rfl)) .nil)),_,rfl,⟨.slice none 0 0,rfl,aR.nil _ _ _⟩,⟨Nat.le_trans e04.size a6.size,fun b hb _=>(a6.block b (by have:=e04.size;omega) (by omega)).trans (e04.block b hb (fun q=>q))⟩⟩)
 have hLz:=R0.lp.lt;refine(xV (l:=h4.size+1) (b:=h3.size) (J:=fun t u g'=>wE h4.size (bK fid tmps #[15] (FG (Lw.sub (aq f18) [0,1,0,1])) (FF (Lw.sub (aq f18) [0,1,0,1])) h4.size) (LU h4 h.size h1.size h3.size t u) g') (S:=fun g'=>wE h4.size (nJ (bK fid tmps #[15] (FG (Lw.sub (aq f18) [0,1,0,1])) (FF (Lw.sub (aq f18) [0,1,0,1])) h4.size)) (LS h4 h.size h1.size h2.size h3.size) g') (fun t u g q=>q.j.s) (fun t u u' g g' q x k=>Gk q x (by omega) (q.j.st (x.mono fun _ _ y=>.inr y) k hord)) (fun x r g hx hlr q=>?_) (by decide) ⟨R0.lp,R0.df,⟨(c2.af e4).af eL,(c3.af e4).af eL,rfl,ks.af eL,eL.mono fun _ _ q=>q.elim⟩⟩).ret fun _ _ q=>q
 refine q.yield (J':=LU h4 h.size h1.size h3.size r r) (S:=LS h4 h.size h1.size h2.size h3.size) rfl rfl rfl (om hfits rfl) rfl rfl (fun g1 g2 k x=>k.st (x.mono fun _ _ q=>.inl q) (k.s.ext x (by omega)) hord) (fun g1 g2 k x=>k.st (x.mono fun _ _ q=>.inr q) hord2) ?_;refine GI.eE func18 rfl ?_;refine aV.aB rfl rfl rfl rfl rfl (an.assign rfl) ?_;refine aX rfl ?_;refine⟨av _ _,fun g3 x3=>?_⟩;have hlt:=q.lp.lt;obtain⟨a1,a3,hts,a5,eg⟩:=q.j.st (x3.mono fun _ _ y=>.inl y) (q.j.s.ext x3 (by omega)) hord
 have hxb:x=HQ:=by
  rw[hts,Fx] at hlr;exact(List.cons.inj hlr).1.symm
 subst hxb;have hz3:=x3.size;have zeg:=eg.size;have E0:ah h g3:=⟨Nat.le_trans e04.size zeg,fun b hb _=>(eg.block b (by have:=e04.size;omega) (by omega)).trans (e04.block b hb (fun q=>q))⟩
 have hgw:=hg.af E0;have c43:az g3 h2.size 31 [.int .i64 0]:=(c4.af e4).ext eg (by omega);refine GI.block rfl rfl ?_;refine GI.seq rfl ?_;refine GI.eE func18 rfl ?_;refine aV.aB rfl rfl rfl rfl rfl (bn H.BC rfl (a3.cell (i:=0) rfl)) ?_;refine aV.aB rfl rfl rfl rfl rfl (an.dZ rfl rfl ⟨by omega,by omega⟩) ?_;refine aV.mL rfl rfl rfl rfl (aH.br H.fu rfl rfl a3 (by first|decide|exact of_decide_eq_true rfl|(simp;done)|(simp;omega)) rfl) ?_;rintro _ g4 ⟨rfl,k4,x4,z4⟩;have k4:az g4 h1.size 3 [.int .i64 1]:=k4;have a14:=a1.ext x4 (by omega);have c44:=c43.ext x4 (by omega);have hz4:=x4.size;have E4:ah h g4:=ah.only E0 x4 (by omega);have hg4:=hg.af E4;refine aX rfl ?_;refine GI.sub (ρ':=[(0,_),(2,_),(3,_),(4,_),(5,_),(14,_),(15,_)]) ⟨rfl,rfl,rfl,rfl,rfl,rfl,rfl,trivial⟩ ?_;refine GI.seq rfl ?_;refine GI.seq rfl ?_;refine GI.eE func18 rfl ?_;refine aV.aB rfl rfl rfl rfl rfl (bn H.BC rfl (k4.cell (i:=0) rfl)) ?_;refine aV.aB rfl rfl rfl rfl rfl (an.Hp rfl rfl) ?_;refine aX rfl ?_;refine GI.sub (ρ':=[(0,_),(2,_),(3,_),(4,_),(5,_),(14,_),(15,_),(19,_)]) ⟨rfl,rfl,rfl,rfl,rfl,rfl,rfl,rfl,trivial⟩ ?_;refine GI.cond rfl rfl (fun _=>?_) (fun hc=>absurd hc (by decide));refine GI.seq rfl ?_;refine GI.eE func18 rfl ?_;refine aV.aB rfl rfl rfl rfl rfl (aD rfl) ?_;refine aV.r9 rfl rfl rfl rfl rfl (bu (vs:=[_,_]) func44 rfl H.O0 rfl (aj.jF (B0 HQ (by decide)))) ?_;rintro _ g4 ⟨rfl,rfl⟩;refine aV.r9 rfl rfl rfl rfl rfl (bu (vs:=[_,_]) func43 rfl H.O1 rfl (aj.jF (sP hg4 (vE HQ) 32 (by decide)))) ?_;rintro _ g4 ⟨rfl,rfl⟩;have hnum:=Cm hg4 (Lib.cut (vE HQ) [32]).2.1 (by decide);rw[show IL (Lib.cut (vE HQ) [32]).2.1=(1,8) by decide +kernel] at hnum;refine aV.aB rfl rfl rfl rfl rfl (aD rfl) ?_;refine aV.aB rfl rfl rfl rfl rfl (an.extract rfl rfl) ?_;refine aV.aB rfl rfl rfl rfl rfl (an.extract rfl rfl) ?_;refine aV.aB rfl rfl rfl rfl rfl (an.extract rfl rfl) ?_;refine aV.aB rfl rfl rfl rfl rfl (an.assign rfl) ?_;refine aV.aB rfl rfl rfl rfl rfl (an.assign rfl) ?_;refine aV.aB rfl rfl rfl rfl rfl (an.assign rfl) ?_;refine aX rfl ?_;refine GI.sub (ρ':=[(0,_),(2,_),(3,_),(4,_),(5,_),(6,_),(7,_),(14,_),(15,_),(19,_)]) ⟨rfl,rfl,rfl,rfl,rfl,rfl,rfl,rfl,rfl,rfl,trivial⟩ ?_;refine GI.seq rfl ?_;refine GI.eE func18 rfl ?_;refine aV.aB rfl rfl rfl rfl rfl (aD rfl) ?_;refine aV.r9 rfl rfl rfl rfl rfl (bu (vs:=[_]) func45 rfl H.OZ rfl (aj.jF (hnum))) ?_;rintro _ g7 ⟨rfl,e7⟩;refine aV.aB rfl rfl rfl rfl rfl (aD rfl) ?_;refine aV.aB rfl rfl rfl rfl rfl (an.extract rfl rfl) ?_;refine aV.aB rfl rfl rfl rfl rfl (an.extract rfl rfl) ?_;refine aV.aB rfl rfl rfl rfl rfl (aM (off:=0) underlying24 rfl rfl H.fu rfl) ?_;refine aV.mL rfl rfl rfl rfl (aH.br H.fu rfl rfl (a14.af e7) (by first|decide|exact of_decide_eq_true rfl|(simp;done)|(simp;omega)) rfl) ?_;rintro _ g8 ⟨rfl,k8,x8,z8⟩;refine aV.aB rfl rfl rfl rfl rfl (aM (off:=1) underlying24 rfl rfl H.fu rfl) ?_;refine aV.mL rfl rfl rfl rfl (aH.br H.fu rfl rfl k8 (by first|decide|exact of_decide_eq_true rfl|(simp;done)|(simp;omega)) rfl) ?_;rintro _ g9 ⟨rfl,k9,x9,z9⟩;have k9:az g9 h.size 24 (gL 1 8 (.slice none 0 0)):=k9;have zz7:=e7.size;have E9:ah h g9:=ah.only (ah.only (E4.trans e7) x8 (Nat.le_refl _)) x9 (Nat.le_refl _);have kn9:=((k4.af e7).ext x8 (by omega)).ext x9 (by omega);have ke9:=((c44.af e7).ext x8 (by omega)).ext x9 (by omega);have X9:Ext (fun b=>b=h.size\/b=h1.size\/h4.size+2<=b) g3 g9:=(((x4.mono fun b _ q=>.inr (.inl q)).trans (e7.mono fun _ _ q=>q.elim)).trans (x8.mono fun b _ q=>.inl q)).trans (x9.mono fun b _ q=>.inl q);have hck:iM 1 8 []=false:=by decide
 have hnx:(⟨#[]⟩:ByteArray)≠bs HQ:=by decide
 refine aX rfl ?_;refine GI.sub (ρ':=[(0,_),(2,_),(3,_),(4,_),(5,_),(6,_),(7,_),(14,_),(15,_),(19,_)]) ⟨rfl,rfl,rfl,rfl,rfl,rfl,rfl,rfl,rfl,rfl,trivial⟩ ?_;refine GI.seq rfl ?_;refine GI.seq rfl ?_;refine GI.eE func18 rfl ?_;refine aV.aB rfl rfl rfl rfl rfl (an.bB H.pH H.mq rfl k9.row (by first|rfl|(simp;done)|(simp;omega))) ?_;refine aV.r9 rfl rfl rfl rfl rfl (bu (vs:=[_]) func7 rfl H.PM rfl (aj.jF (DP (aR.nil mu g9 (fun _=>False)) hck))) ?_;rintro _ g10 ⟨rfl,e10⟩;refine aV.aB rfl rfl rfl rfl rfl (aD rfl) ?_;refine aV.aB rfl rfl rfl rfl rfl (an.extract rfl rfl) ?_;refine aV.aB rfl rfl rfl rfl rfl (an.extract rfl rfl) ?_;refine aV.aB rfl rfl rfl rfl rfl (an.assign rfl) ?_;refine aV.aB rfl rfl rfl rfl rfl (an.assign rfl) ?_;refine aX rfl ?_;refine GI.sub (ρ':=[(0,_),(2,_),(3,_),(4,_),(5,_),(6,_),(7,_),(9,_),(14,_),(15,_),(19,_)]) ⟨rfl,rfl,rfl,rfl,rfl,rfl,rfl,rfl,rfl,rfl,rfl,trivial⟩ ?_;refine GI.seq rfl ?_;have k10:=k9.af e10;have kn10:=kn9.af e10;have ke10:=ke9.af e10;have X10:=X9.trans (e10.mono (M':=fun b=>b=h.size\/b=h1.size\/h4.size+2<=b) fun _ _ q=>q.elim);refine GI.eE func18 rfl ?_;refine aV.aB rfl rfl rfl rfl rfl (aD rfl) ?_;refine aV.aB rfl rfl rfl rfl rfl (an.su rfl rfl) ?_;refine aV.aB rfl rfl rfl rfl rfl (aD rfl) ?_;refine aV.aO (d:=41) (b':=false) rfl ((by decide +kernel)) ?_;refine aV.rU rfl rfl rfl rfl rfl (aD rfl) ?_;refine aV.rU rfl rfl rfl rfl rfl (aD rfl) ?_;refine aV.rU rfl rfl rfl rfl rfl (an.su rfl rfl) ?_;refine aV.aB rfl rfl rfl rfl rfl (an.DK rfl rfl) ?_;refine aX rfl ?_;refine GI.sub (ρ':=[(0,_),(2,_),(3,_),(4,_),(5,_),(6,_),(7,_),(9,_),(14,_),(15,_),(19,_),(45,_)]) ⟨rfl,rfl,rfl,rfl,rfl,rfl,rfl,rfl,rfl,rfl,rfl,rfl,trivial⟩ ?_;refine GI.cond rfl rfl (fun _=>?_) (fun hc=>absurd hc (by simpa using hnx));refine GI.seq rfl ?_;refine Jy (sz:=5) (listed:= #[false,false,false,false,false]) H.mixed rfl rfl rfl ?_;refine Ed 0 1 (by kernel_rfl) (jj.mk (listed':= #[true,false,false,false,false]) rfl rfl rfl rfl rfl rfl (an.jF (au (H.Kt ) rfl)) ?_) (jj.mk (listed':= #[false,true,false,false,false]) rfl rfl rfl rfl rfl rfl (an.jF (bn H.BC rfl (kn10.cell (i:=0) rfl))) ?_)
 · rintro _ _ ⟨hqv_,hqe_⟩;replace hqv_:=hqv_.symm;replace hqe_:=hqe_.symm;subst hqv_;subst hqe_;refine Ed 1 2 (by kernel_rfl) (jj.mk (listed':= #[true,true,false,false,false]) rfl rfl rfl rfl rfl rfl (an.jF (bn H.BC rfl (kn10.cell (i:=0) rfl))) ?_) (jj.mk (listed':= #[true,false,true,false,false]) rfl rfl rfl rfl rfl rfl (aH.bZ H.mq rfl rfl k10 (by first|rfl|(simp;done)|(simp;omega)) (by first|decide|exact of_decide_eq_true rfl|(simp;done)|(simp;omega)) (by first|decide|simp[Value.oneCell'])) ?_)
   · rintro _ _ ⟨hqv_,hqe_⟩;replace hqv_:=hqv_.symm;replace hqe_:=hqe_.symm;subst hqv_;subst hqe_;refine qJ.one 2 (by kernel_rfl) (jj.mk (listed':= #[true,true,true,false,false]) rfl rfl rfl rfl rfl rfl (aH.bZ H.mq rfl rfl k10 (by first|rfl|(simp;done)|(simp;omega)) (by first|decide|exact of_decide_eq_true rfl|(simp;done)|(simp;omega)) (by first|decide|simp[Value.oneCell'])) ?_);rintro _ y1 ⟨rfl,m1,w1,v1⟩;have n1:=kn10.ext w1 (by omega);have o1:=ke10.ext w1 (by omega);refine qJ.one 3 (by kernel_rfl) (jj.mk (listed':= #[true,true,true,true,false]) rfl rfl rfl rfl rfl rfl (aH.br H.fu rfl rfl n1 (by first|decide|exact of_decide_eq_true rfl|(simp;done)|(simp;omega)) rfl) ?_);rintro _ y2 ⟨rfl,m2,w2,v2⟩;have o2:=o1.ext w2 (by omega);refine qJ.one 4 (by kernel_rfl) (jj.mk (listed':= #[true,true,true,true,true]) rfl rfl rfl rfl rfl rfl (aH.br H.Ep rfl rfl o2 (by first|decide|exact of_decide_eq_true rfl|(simp;done)|(simp;omega)) rfl) ?_);rintro _ y3 ⟨rfl,m3,w3,v3⟩;refine qJ.done (by kernel_rfl) ?_;refine GI.sub (ρ':=[(0,_),(2,_),(3,_),(4,_),(5,_),(6,_),(7,_),(9,_),(14,_),(15,_),(19,_),(45,_)]) ⟨rfl,rfl,rfl,rfl,rfl,rfl,rfl,rfl,rfl,rfl,rfl,rfl,trivial⟩ ?_;refine GI.ret rfl ?_;have X:Ext (fun b=>b=h.size\/b=h1.size\/b=h2.size\/h4.size+2<=b) g3 y3:=(((X10.mono (M':=fun b=>b=h.size\/b=h1.size\/b=h2.size\/h4.size+2<=b) fun b _ q=>by omega).trans (w1.mono fun b _ q=>.inl q)).trans (w2.mono fun b _ q=>.inr (.inl q))).trans (w3.mono fun b _ q=>.inr (.inr (.inl q)));exact⟨⟨X.block _ (by omega) (by omega),X.block _ (by omega) (by omega)⟩,.inr ⟨rfl,⟨(m1.ext w2 (by omega)).ext w3 (by omega),m2.ext w3 (by omega),m3,⟨Nat.le_trans zeg X.size,fun b hb hm=>(X.block b (by omega) (by omega)).trans (eg.block b hb (by omega))⟩⟩⟩⟩
   · rintro _ y1 ⟨rfl,m1,w1,v1⟩;refine qJ.one 1 (by kernel_rfl) (jj.mk (listed':= #[true,true,true,false,false]) rfl rfl rfl rfl rfl rfl (an.jF (bn H.BC rfl ((kn10.ext w1 (by omega)).cell (i:=0) rfl))) ?_);rintro _ _ ⟨hqv_,hqe_⟩;replace hqv_:=hqv_.symm;replace hqe_:=hqe_.symm;subst hqv_;subst hqe_;have n1:=kn10.ext w1 (by omega);have o1:=ke10.ext w1 (by omega);refine qJ.one 3 (by kernel_rfl) (jj.mk (listed':= #[true,true,true,true,false]) rfl rfl rfl rfl rfl rfl (aH.br H.fu rfl rfl n1 (by first|decide|exact of_decide_eq_true rfl|(simp;done)|(simp;omega)) rfl) ?_);rintro _ y2 ⟨rfl,m2,w2,v2⟩;have o2:=o1.ext w2 (by omega);refine qJ.one 4 (by kernel_rfl) (jj.mk (listed':= #[true,true,true,true,true]) rfl rfl rfl rfl rfl rfl (aH.br H.Ep rfl rfl o2 (by first|decide|exact of_decide_eq_true rfl|(simp;done)|(simp;omega)) rfl) ?_);rintro _ y3 ⟨rfl,m3,w3,v3⟩;refine qJ.done (by kernel_rfl) ?_;refine GI.sub (ρ':=[(0,_),(2,_),(3,_),(4,_),(5,_),(6,_),(7,_),(9,_),(14,_),(15,_),(19,_),(45,_)]) ⟨rfl,rfl,rfl,rfl,rfl,rfl,rfl,rfl,rfl,rfl,rfl,rfl,trivial⟩ ?_;refine GI.ret rfl ?_;have X:Ext (fun b=>b=h.size\/b=h1.size\/b=h2.size\/h4.size+2<=b) g3 y3:=(((X10.mono (M':=fun b=>b=h.size\/b=h1.size\/b=h2.size\/h4.size+2<=b) fun b _ q=>by omega).trans (w1.mono fun b _ q=>.inl q)).trans (w2.mono fun b _ q=>.inr (.inl q))).trans (w3.mono fun b _ q=>.inr (.inr (.inl q)));exact⟨⟨X.block _ (by omega) (by omega),X.block _ (by omega) (by omega)⟩,.inr ⟨rfl,⟨(m1.ext w2 (by omega)).ext w3 (by omega),m2.ext w3 (by omega),m3,⟨Nat.le_trans zeg X.size,fun b hb hm=>(X.block b (by omega) (by omega)).trans (eg.block b hb (by omega))⟩⟩⟩⟩
 · rintro _ _ ⟨hqv_,hqe_⟩;replace hqv_:=hqv_.symm;replace hqe_:=hqe_.symm;subst hqv_;subst hqe_;refine qJ.one 0 (by kernel_rfl) (jj.mk (listed':= #[true,true,false,false,false]) rfl rfl rfl rfl rfl rfl (an.jF (au (H.Kt ) rfl)) ?_);rintro _ _ ⟨hqv_,hqe_⟩;replace hqv_:=hqv_.symm;replace hqe_:=hqe_.symm;subst hqv_;subst hqe_;refine qJ.one 2 (by kernel_rfl) (jj.mk (listed':= #[true,true,true,false,false]) rfl rfl rfl rfl rfl rfl (aH.bZ H.mq rfl rfl k10 (by first|rfl|(simp;done)|(simp;omega)) (by first|decide|exact of_decide_eq_true rfl|(simp;done)|(simp;omega)) (by first|decide|simp[Value.oneCell'])) ?_);rintro _ y1 ⟨rfl,m1,w1,v1⟩;have n1:=kn10.ext w1 (by omega);have o1:=ke10.ext w1 (by omega);refine qJ.one 3 (by kernel_rfl) (jj.mk (listed':= #[true,true,true,true,false]) rfl rfl rfl rfl rfl rfl (aH.br H.fu rfl rfl n1 (by first|decide|exact of_decide_eq_true rfl|(simp;done)|(simp;omega)) rfl) ?_);rintro _ y2 ⟨rfl,m2,w2,v2⟩;have o2:=o1.ext w2 (by omega);refine qJ.one 4 (by kernel_rfl) (jj.mk (listed':= #[true,true,true,true,true]) rfl rfl rfl rfl rfl rfl (aH.br H.Ep rfl rfl o2 (by first|decide|exact of_decide_eq_true rfl|(simp;done)|(simp;omega)) rfl) ?_);rintro _ y3 ⟨rfl,m3,w3,v3⟩;refine qJ.done (by kernel_rfl) ?_;refine GI.sub (ρ':=[(0,_),(2,_),(3,_),(4,_),(5,_),(6,_),(7,_),(9,_),(14,_),(15,_),(19,_),(45,_)]) ⟨rfl,rfl,rfl,rfl,rfl,rfl,rfl,rfl,rfl,rfl,rfl,rfl,trivial⟩ ?_;refine GI.ret rfl ?_;have X:Ext (fun b=>b=h.size\/b=h1.size\/b=h2.size\/h4.size+2<=b) g3 y3:=(((X10.mono (M':=fun b=>b=h.size\/b=h1.size\/b=h2.size\/h4.size+2<=b) fun b _ q=>by omega).trans (w1.mono fun b _ q=>.inl q)).trans (w2.mono fun b _ q=>.inr (.inl q))).trans (w3.mono fun b _ q=>.inr (.inr (.inl q)));exact⟨⟨X.block _ (by omega) (by omega),X.block _ (by omega) (by omega)⟩,.inr ⟨rfl,⟨(m1.ext w2 (by omega)).ext w3 (by omega),m2.ext w3 (by omega),m3,⟨Nat.le_trans zeg X.size,fun b hb hm=>(X.block b (by omega) (by omega)).trans (eg.block b hb (by omega))⟩⟩⟩⟩
theorem yI (hW:jH h) (hv:aR mu h O v [zD]):aj Tryz.prog 13 #[.agg (gL 4 20 v).toArray,.int .i64 1] h (aN fun r h'=>(∃b n c,r= .tuple #[.agg (cy 4 20 (.slice (some ⟨b,0,none⟩) n c) 0 2).toArray,.int .i64 0]/\n=80/\Lw.rowAt h' b 0 (cz (62,1,pP)))/\ah h h'):=by
 have hM:(cK 4 20 [zD]).1.rows=4/\(cK 4 20 [zD]).1.cols=20/\(cK 4 20 [zD]).1.row=0/\(cK 4 20 [zD]).1.col=2/\(cK 4 20 [zD]).1.xs.length=80/\(cK 4 20 [zD]).1.xs.head? =some (62,1,pP):=by decide +kernel
 have hok:jT 4 20 1 [zD]:=⟨by unfold iM fM;decide +kernel,by decide,by decide⟩
 refine(oy hW hv (by decide) (fun e he=>by obtain rfl:=List.mem_singleton.1 he;decide +kernel) 4 20 1).ret fun r h' ⟨hr,e⟩=>⟨?_,e⟩
 obtain⟨-,b,c,n,hr,-,hn,-,hrow⟩:=hr.resolve_right fun q=>q.1 hok
 change r= .tuple #[.agg (cy (cK 4 20 [zD]).1.rows (cK 4 20 [zD]).1.cols (.slice (some ⟨b,0,none⟩) n c) (cK 4 20 [zD]).1.row (cK 4 20 [zD]).1.col).toArray,.int .i64 0] at hr
 change (cK 4 20 [zD]).1.xs.length=n at hn
 change Lw.rowAt h' b 0 ((cK 4 20 [zD]).1.xs.flatMap cz) at hrow
 obtain⟨m1,m2,m3,m4,m5,m6⟩:=hM;rw[m1,m2,m3,m4] at hr;refine⟨b,n,c,hr,hn.symm.trans m5,fun j x hx=>hrow j x ?_⟩
 obtain⟨l,hl⟩:∃l,(cK 4 20 [zD]).1.xs=(62,1,pP)::l:=by
  cases hc:(cK 4 20 [zD]).1.xs with
  |nil=>rw[hc] at m6;cases m6
  |cons a l=>rw[hc] at m6;cases m6;exact⟨l,rfl⟩
 rw[hl,List.flatMap_cons,List.getElem?_append_left (List.getElem?_eq_some_iff.1 hx).1];exact hx
theorem qq (hg:Io h):aj Tryz.prog 5 #[] h (aN fun r h'=>r= .bool true/\ah h h'):=by
 refine bf ?_;refine aa ?_;refine xo rfl (aG rfl (CV hg.wd)) ?_;rintro _ h1 ⟨⟨v,rfl,hv⟩,e1⟩;obtain⟨va,vn,vc,rfl,hvs⟩:=id hv.open;have hvl:1=vn:=hvs.len;subst hvl;refine aa ?_;refine xo rfl (cC) ?_;rintro _ h2 ⟨rfl,k2,e2,z2⟩;refine aY rfl (bM rfl rfl k2 Pn) ?_;rintro _ h3 ⟨rfl,k3,x3,z3⟩;have k3:az h3 h1.size 24 (gL 4 20 (.slice va 1 vc)):=k3;have e13:ah h1 h3:=ah.only e2 x3 (Nat.le_refl _);refine aa ?_;refine xp rfl (bI rfl k3.row) ?_;refine xo rfl (aG rfl (yI (hg.wd.af (e1.trans e13)) (hv.af e13))) ?_;rintro _ h4 ⟨⟨b,_,c,rfl,rfl,kr⟩,e4⟩;refine aa ?_;refine xo rfl (cC) ?_;rintro _ h5 ⟨rfl,k5,e5,z5⟩;refine aY rfl (bM rfl rfl k5 ((jw rfl))) ?_;rintro _ h6 ⟨rfl,k6,x6,z6⟩;have k6:az h6 h4.size 41 (cy 4 20 (.slice (some ⟨b,0,none⟩) 80 c) 0 2):=k6;have e46:ah h4 h6:=ah.only e5 x6 (Nat.le_refl _);have e36:=e4.trans e46;have e06:=(e1.trans e13).trans e36;refine aa ?_;refine xp rfl (au (H.HJ _) rfl) ?_;refine xo rfl (mz) ?_;rintro _ h7 ⟨rfl,h7e⟩;have e67:ah h6 h7:=by rw[h7e];exact Ext.push _ _ _
 have s7:aR mu h7 (fun _=>False) (.slice (some ⟨h6.size,0,none⟩) 1 1) [pN]:=by rw[h7e];exact eP.read (eP.mM (fun _=>rfl) h6 pN 49 h6.size (Nat.le_refl _) rfl) (fun _ _ q=>q)
 refine xp rfl (au (H.Dd _ _ _ _ _) rfl) ?_;refine xo rfl (aG rfl (AV (hg.af (e06.trans e67)).wd.lx.tens s7)) ?_;rintro _ h8 ⟨rfl,e8⟩;refine aa ?_;refine xo rfl (aG rfl (xY (hg.af ((e06.trans e67).trans e8)))) ?_;rintro _ h9 ⟨⟨v2,rfl,hv2⟩,e9⟩;obtain⟨wa,wn,wc,rfl,hws⟩:=id hv2.open;refine aa ?_;refine xo rfl (cC) ?_;rintro _ g1 ⟨rfl,k10,e10,z10⟩;refine aY rfl (bM rfl rfl k10 Pn) ?_;rintro _ g2 ⟨rfl,k11,x11,z11⟩;have e6g:ah h6 g2:=ah.only (((e67.trans e8).trans e9).trans e10) x11 (by have:=((e67.trans e8).trans e9).size;omega);have e0g:=e06.trans e6g;have k3g:=(k3.af e36).af e6g;have k6g:=k6.af e6g;have hcell:=e6g.rowAt (fun q=>q) (e46.rowAt (fun q=>q) kr);obtain⟨p1,o1,x1,ha1,_,hx1,hrow1⟩:=(hvs.mv (Mv.af ((e13.trans e36).trans e6g))).fC (i:=0) (by decide);obtain rfl:x1=zD:=(Option.some.inj hx1).symm
 iterate 2 refine aU ?_
 refine bJ ?_
 iterate 2 refine aI ?_
 refine dM [(56,.bool false)] rfl ?_ ?_
 · refine aa ?_;refine RW.aO (d:=33) (b':=false) rfl ((by decide)) ?_;refine aa ?_;refine xp rfl (aA rfl (k3g.cell (i:=2) rfl)) ?_;refine aa ?_;refine RW.aO (d:=39) (b':=false) rfl ((by decide)) ?_;refine aa ?_;refine xp rfl (aA rfl (k3g.cell (i:=2) rfl)) ?_;refine xp rfl (bT rfl rfl 0 rfl ha1 (by decide)) ?_;refine aa ?_;refine xp rfl (aA rfl (hrow1 0 _ rfl)) ?_;refine aa ?_;refine RW.aO (d:=47) (b':=false) rfl ((by decide)) ?_;refine aa ?_;refine RW.aO (d:=51) (b':=false) rfl ((by decide)) ?_;refine aa ?_;refine xp rfl (aA rfl (k6g.cell (i:=2) rfl)) ?_;refine aa ?_;exact aL rfl ⟨ak rfl (by decide),sb rfl⟩
 · refine bV rfl (by decide) ?_
   iterate 2 refine aI ?_
   refine dM [(0,.bool true)] rfl ?_ ?_
   · refine aa ?_;refine xp rfl (aA rfl (k6g.cell (i:=2) rfl)) ?_;refine xp rfl (bT rfl rfl 0 rfl rfl (by decide)) ?_;refine aa ?_;refine xp rfl (aA rfl (hcell 0 _ rfl)) ?_;refine aa ?_;refine RW.aO (d:=63) (b':=true) rfl ((by decide)) ?_;refine aa ?_;refine xp rfl (aA rfl (k6g.cell (i:=4) rfl)) ?_;refine aa ?_;refine RW.aO (d:=68) (b':=true) rfl ((by decide)) ?_;refine aa ?_;refine RW.aO (d:=72) (b':=true) rfl ((by decide)) ?_;refine aa ?_;refine RW.aO (d:=76) (b':=true) rfl ((by decide)) ?_;refine aa ?_;refine RW.aO (d:=80) (b':=true) rfl ((by decide)) ?_;refine aa ?_;exact aL rfl ⟨ak rfl (by decide),sb rfl⟩
   · refine aW ?_;exact⟨_,rfl,rfl,e0g⟩
theorem B2 (hg:Io h) (hv:aR mu h (fun _=>False) v xs) (hw:aR mu h (fun _=>False) w ys) (hxb:xs.length*40<=140737488351232) (hyb:ys.length*40<=140737488351232) (r1 c1 r2 c2 n:Int) :
 aj Tryz.prog 3 #[.agg (gL r1 c1 v).toArray,.agg (gL r2 c2 w).toArray,.int .i64 n] h (aN fun r h'=>r= .bool true/\ah h h'):=by
 obtain⟨va,vn,vc,rfl,hvs⟩:=id hv.open;obtain⟨wa,wn,wc,rfl,hws⟩:=id hw.open;have hvl:xs.length=vn:=hvs.len;subst hvl;refine aj.of func3 rfl rfl ?_;refine xr func3 rfl ?_;refine xo rfl (aH.Jc rfl) ?_;rintro _ h1 ⟨rfl,k3,e1,z1⟩;refine xo rfl (aH.Jc rfl) ?_;rintro _ h2 ⟨rfl,k4,e2,z2⟩;have k3:az h2 h.size 24 (gL r1 c1 (.slice va xs.length vc)):=k3.af e2;have k4:az h2 h1.size 24 (gL r2 c2 (.slice wa wn wc)):=k4;have e02:=e1.trans e2;have gx:=fun h' (e:ah h h')=>mO (hv.af e) hxb r1 c1 12
 have gy:=fun h' (e:ah h h')=>mO (hw.af e) hyb r2 c2 12
 refine uv 1 [0,1,2,3,4,6] rfl ?_;refine G.seq rfl ?_;refine G.seq rfl ?_;refine G.Ce (fun(b:Bool) (h':ai)=>ah h2 h'/\(b=false->(xs.length<=12/\∀e∈xs,e.2.1.length<=200)/\(ys.length<=12/\∀e∈ys,e.2.1.length<=200))) (fun(b:Bool)=>[(23,.bool b)]) [(0,_),(1,_),(2,_),(3,_),(4,_),(6,_)] ⟨rfl,rfl,rfl,rfl,rfl,rfl,trivial⟩ func3 rfl ?_ ?_
 · refine xp rfl (an.bB H.pH H.mq rfl k3.row (by first|rfl|(simp;done)|(simp;omega))) ?_;refine xo rfl (bu (vs:=[_,_]) func4 rfl H.PO rfl (aj.jF (gx _ e02))) ?_;rintro _ h3 ⟨⟨b1,rfl,hb1⟩,e3⟩;cases b1
   · refine oH 1 rfl ?_;refine RW.aO (d:=20) (b':=false) rfl (rfl) ?_;refine xp rfl (an.bB H.pH H.mq rfl (k4.af e3).row (by first|rfl|(simp;done)|(simp;omega))) ?_;refine xo rfl (bu (vs:=[_,_]) func4 rfl H.PO rfl (aj.jF (gy _ (e02.trans e3)))) ?_;rintro _ h4 ⟨⟨b2,rfl,hb2⟩,e4⟩;refine oH 1 rfl ?_;refine eH rfl ?_;exact⟨b2,⟨e3.trans e4,fun q=>⟨hb1 rfl,hb2 q⟩⟩,rfl,rfl,rfl,rfl,rfl,rfl,rfl,trivial⟩
   · refine oH 1 rfl ?_;refine RW.aO (d:=20) (b':=true) rfl (rfl) ?_;refine oH 3 rfl ?_;refine eH rfl ?_;exact⟨true,⟨e3,fun q=>by cases q⟩,rfl,rfl,rfl,rfl,rfl,rfl,rfl,trivial⟩
 · rintro b h3 ⟨e3,hb⟩;have e03:=e02.trans e3;refine jm rfl rfl (fun hbb=>?_) (fun hbb=>?_)
   · refine xr func3 rfl ?_;refine xo rfl (bu (vs:=[]) func5 rfl H.Qd rfl (aj.jF (qq (hg.af e03)))) ?_;rintro _ h4 ⟨rfl,e4⟩;refine uv 1 [0,1,2,3,4,6,23] rfl ?_;refine G.ret func3 rfl rfl ?_;exact⟨_,rfl,rfl,e03.trans e4⟩
   · obtain⟨⟨hx12,hx2⟩,⟨hy12,hy2⟩⟩:=hb hbb;have k33:=k3.af e3;have k43:=k4.af e3;have hvT:∀{h'},ah h h'->aR mu h' (fun _=>False) (.slice va xs.length vc) xs:=fun e=>hv.af e
     have hwT:∀{h'},ah h h'->aR mu h' (fun _=>False) (.slice wa wn wc) ys:=fun e=>hw.af e
     refine fR rfl ?_;refine xr func3 rfl ?_;refine xp rfl (an.bB H.pH H.mq rfl k33.row (by first|rfl|(simp;done)|(simp;omega))) ?_;refine xo rfl (bu (vs:=[_]) func6 rfl H.PN rfl (aj.jF (wz (hvT e03) (by omega) r1 c1))) ?_;rintro _ h4 ⟨⟨v7,rfl,hv7⟩,e4⟩;obtain⟨da,dn,dc,rfl,-⟩:=id hv7.open;refine xo rfl (aH.lW H.LZ) ?_;rintro _ h5 ⟨rfl,k5,e5,z5⟩;refine RW.mL rfl rfl rfl (aH.bZ H.B5 rfl rfl k5 (by first|rfl|(simp;done)|(simp;omega)) (by first|decide|exact of_decide_eq_true rfl|(simp;done)|(simp;omega)) (Pn)) ?_;rintro _ h6 ⟨rfl,k7,x6,z6⟩;have k7:az h6 h4.size 29 (gL r1 c1 (.slice da dn dc)):=k7;have e46:ah h4 h6:=ah.only e5 x6 (Nat.le_refl _);have e36:=e4.trans e46;have e06:=e03.trans e36;have hv76:=hv7.af e46;have k36:=k33.af e36;have k46:=k43.af e36;refine xd [0,1,2,3,4,6,7,23] rfl ?_;refine xr func3 rfl ?_;refine xp rfl (an.bB H.pH H.mq rfl k36.row (by first|rfl|(simp;done)|(simp;omega))) ?_;refine xo rfl (bu (vs:=[_]) func7 rfl H.PM rfl (aj.jF (AU (hg.af e06).wd.lx.tens (hvT e06) r1 c1 (fun e he=>by have:=hx2 e he;omega) (by omega)))) ?_;rintro _ h7 ⟨rfl,e7⟩;refine uv 5 [0,1,2,3,4,6,7,8,9,23] rfl ?_;refine xr func3 rfl ?_;refine xp rfl (an.bB H.FA H.B5 rfl (k7.af e7).row (by first|rfl|(simp;done)|(simp;omega))) ?_;refine xo rfl (bu (vs:=[_]) func8 rfl H.Qc rfl (aj.jF (Ak (hv76.af e7) r1 c1 (fun e he=>by have:=hx2 e he;omega) (by omega)))) ?_;rintro _ h8 ⟨rfl,e8⟩;have e68:=e7.trans e8;have e08:=e06.trans e68;have k38:=k36.af e68;have k48:=k46.af e68;have k78:=k7.af e68;have hv78:=hv76.af e68;have hM3:¬Array.size h8<=h.size:=by have:=k38.lt;omega
     have hM4:¬Array.size h8<=h1.size:=by have:=k48.lt;omega
     have hM7:¬Array.size h8<=h4.size:=by have:=k78.lt;omega
     generalize Gv r1 c1 xs=P at *;obtain⟨E,hE⟩:∃E:Int,(if iM r1 c1 xs=true then (0:Int) else 2)=E:=⟨_,rfl⟩
     rw[hE];have hck:=fun h (hv:aR mu h (fun _=>False) (.slice va xs.length vc) xs)=>iu (h:=h) hv r1 c1
     have hcr:=fun h (hv:aR mu h (fun _=>False) (.slice da dn dc) xs)=>jS (h:=h) hv r1 c1
     rw[hE] at hck hcr;refine uv 5 [0,1,2,3,4,6,7,8,9,10,11,23] rfl ?_;refine G.seq rfl ?_;refine G.seq rfl ?_;refine G.D3 (fun(_u:Unit) (h':ai)=>ah h8 h') (fun(_u:Unit)=>[(67,.bool false)]) [(0,_),(1,_),(2,_),(3,_),(4,_),(6,_),(7,_),(8,_),(9,_),(10,_),(11,_),(23,_)] ⟨rfl,rfl,rfl,rfl,rfl,rfl,rfl,rfl,rfl,rfl,rfl,rfl,trivial⟩ (fun b=>Array.size h8<=b) (fun i=>Nat.blt i 31) (sz:=31) (listed:= #[false,false,false,false,false,false,false,false,false,false,false,false,false,false,false,false,false,false,false,false,false,false,false,false,false,false,false,false,false,false,false]) func3 H.mixed rfl rfl rfl ?_ ?_
     · refine Ig 0 1 (by kernel_rfl) rfl (fun h' e=>an.bB H.pH H.mq rfl (e.rowAt hM3 k38.row) (by first|rfl|(simp;done)|(simp;omega))) ?_;refine Ig 2 5 (by kernel_rfl) rfl (fun h' e=>an.bB H.FA H.B5 rfl (e.rowAt hM7 k78.row) (by first|rfl|(simp;done)|(simp;omega))) ?_;refine LC 1 7 (by kernel_rfl) rfl (bu (vs:=[_]) func9 rfl H.Qb rfl (aj.jF (hck _ (hvT e08)))) ?_;rintro _ h9 ⟨rfl,e9⟩;refine⟨fun _=>e9.of,?_⟩;refine LC 3 15 (by kernel_rfl) rfl (bu (vs:=[_]) func10 rfl H.O6 rfl (aj.jF (hcr _ (hv78.af e9)))) ?_;rintro _ h10 ⟨rfl,e10⟩;refine⟨fun _=>e10.of,?_⟩;refine BT 4 31 (by kernel_rfl) rfl ?_;refine BT 5 63 (by kernel_rfl) rfl ?_;refine RD.aO (d:=42) (b':=false) rfl ((by simp)) ?_;refine BT 6 127 (by kernel_rfl) rfl ?_;refine BT 7 255 (by kernel_rfl) rfl ?_;refine Ig 8 511 (by kernel_rfl) rfl (fun h' e=>an.su rfl rfl) ?_;refine BT 9 1023 (by kernel_rfl) rfl ?_;refine BT 10 2047 (by kernel_rfl) rfl ?_;refine RD.aO (d:=47) (b':=false) rfl ((by simp)) ?_;refine BT 11 4095 (by kernel_rfl) rfl ?_;refine BT 12 8191 (by kernel_rfl) rfl ?_;refine BT 13 16383 (by kernel_rfl) rfl ?_;refine BT 14 32767 (by kernel_rfl) rfl ?_;refine BT 15 65535 (by kernel_rfl) rfl ?_;refine RD.aO (d:=52) (b':=false) rfl ((by simp)) ?_;have e810:=e9.trans e10;have kk3:=k38.af e810;have kk4:=k48.af e810;have kk7:=k78.af e810;refine Ig 16 131071 (by kernel_rfl) rfl (fun h' e=>an.bB H.pH H.mq rfl (e.rowAt hM3 kk3.row) (by first|rfl|(simp;done)|(simp;omega))) ?_;refine Ig 17 262143 (by kernel_rfl) rfl (fun h' e=>an.bB H.pH H.mq rfl (e.rowAt hM4 kk4.row) (by first|rfl|(simp;done)|(simp;omega))) ?_;refine Ig 19 786431 (by kernel_rfl) rfl (fun h' e=>an.bB H.FA H.B5 rfl (e.rowAt hM7 kk7.row) (by first|rfl|(simp;done)|(simp;omega))) ?_;refine Ig 20 1835007 (by kernel_rfl) rfl (fun h' e=>an.bB H.pH H.mq rfl (e.rowAt hM4 kk4.row) (by first|rfl|(simp;done)|(simp;omega))) ?_;refine LC 18 2097151 (by kernel_rfl) rfl (bu (vs:=[_,_]) func11 rfl H.M1 rfl (aj.jF (qn (hvT (e08.trans e810)) (hwT (e08.trans e810)) r1 c1 r2 c2))) ?_;rintro _ h11 ⟨rfl,e11⟩;refine⟨fun _=>e11.of,?_⟩;refine LC 21 4194303 (by kernel_rfl) rfl (bu (vs:=[_]) func6 rfl H.PN rfl (aj.jF (wz (hwT ((e08.trans e810).trans e11)) (by omega) r2 c2))) ?_;rintro _ h12 ⟨⟨w7,rfl,hw7⟩,e12⟩;refine⟨fun _=>e12.of,?_⟩;refine LC 22 8388607 (by kernel_rfl) rfl (bu (vs:=[_,_]) func12 rfl H.O5 rfl (aj.jF (xD (((hv78.af e810).af e11).af e12) hw7 r1 c1 r2 c2))) ?_;rintro _ h13 ⟨rfl,e13⟩;refine⟨fun _=>e13.of,?_⟩;refine Ig 23 16777215 (by kernel_rfl) rfl (fun h' e=>an.IM underlying4 rfl rfl) ?_;refine BT 24 33554431 (by kernel_rfl) rfl ?_;refine BT 25 67108863 (by kernel_rfl) rfl ?_;refine RD.aO (d:=62) (b':=false) rfl ((by simp)) ?_;have e813:=((e810.trans e11).trans e12).trans e13;have kl3:=k38.af e813;refine Ig 26 134217727 (by kernel_rfl) rfl (fun h' e=>an.bB H.pH H.mq rfl (e.rowAt hM3 kl3.row) (by first|rfl|(simp;done)|(simp;omega))) ?_;refine Ig 27 268435455 (by kernel_rfl) rfl (fun h' e=>an.bB H.pH H.mq rfl (e.rowAt hM3 kl3.row) (by first|rfl|(simp;done)|(simp;omega))) ?_;refine LC 28 536870911 (by kernel_rfl) rfl (bu (vs:=[_,_]) func11 rfl H.M1 rfl (aj.jF (qn (hvT (e08.trans e813)) (hvT (e08.trans e813)) r1 c1 r1 c1))) ?_;rintro _ h14 ⟨rfl,e14⟩;refine⟨fun _=>e14.of,?_⟩;refine BT 29 1073741823 (by kernel_rfl) rfl ?_;refine BT 30 2147483647 (by kernel_rfl) rfl ?_;refine rf (by kernel_rfl) ?_;exact⟨(),(e813.trans e14),ak rfl (by simp),rfl,rfl,rfl,rfl,rfl,rfl,rfl,rfl,rfl,rfl,rfl,rfl,trivial⟩
     · rintro-h9 e9;refine jm rfl rfl (fun hc=>absurd hc (by decide)) (fun _=>?_);have e09:=e08.trans e9;have k39:=k38.af e9;have k79:=k78.af e9;have hv79:=hv78.af e9;refine fR rfl ?_;refine G.seq rfl ?_;refine L9 func3 1 [0,1,2,3,4,6,7,8,9,10,11,12,23,67] rfl ?_;refine G.block rfl rfl ?_;refine nC (σ:=Nat) (fun j=>[(2,.int .i64 n),(3,.pointer (some ⟨h.size,0,none⟩)),(7,.pointer (some ⟨h4.size,0,none⟩)),(12,.int .i64 ((j:Int)-1))]) (fun j g=>j<=xs.length+3/\ah h9 g) (fun j=>xs.length+3-j) (0) rfl ⟨rfl,rfl,rfl,rfl,trivial⟩ ⟨Nat.zero_le _,av _ _⟩ ?_;rintro j g ⟨hj,eg⟩ ih;have e0g:=e09.trans eg;have k3g:=k39.af eg;have k7g:=k79.af eg;have hv7g:=hv79.af eg;refine G.seq rfl ?_;refine Ma func3 1 rfl ?_;refine xp rfl (aM (off:=2) underlying24 rfl rfl H.KH rfl) ?_;refine xp rfl (bn H.N1 rfl (k3g.cell (i:=2) rfl)) ?_;refine xp rfl (an.gO underlying22 rfl) ?_;refine xp rfl (an.dZ rfl rfl ⟨by omega,by omega⟩) ?_;refine uv 1 [2,3,7,12,73] rfl ?_;refine wI rfl rfl (fun hlt=>?_) (fun hlt=>?_)
       · refine fR rfl ?_;refine G.seq rfl ?_;refine G.block rfl rfl ?_;refine L9 func3 2 [2,3,7,12,13,73] rfl ?_;refine G.seq rfl ?_;refine L9 func3 2 [2,3,7,12,13,73,78] rfl ?_
         have pl:∀(k:Int) (h':ai) (ρ':Env),Sub [(2,.int .i64 n),(3,.pointer (some ⟨h.size,0,none⟩)),(7,.pointer (some ⟨h4.size,0,none⟩)),(12,.int .i64 ((j:Int)-1)),(13,.int .i64 k)] ρ'->h'=g->G Tryz.prog 3 Tryz.f3 [.code [1,1,0,0,1,0,0,1,0,1,1,1,1,1,1],.blk 1,.code [1,1,0,0,1,0,1,1,1,1,1,1],.loop [0,0,1,0,1,1,1,1,1,1],.blk 0,.code [1,1,1,1,1,1,1]] ρ' h' (aN fun r h'=>r= .bool true/\ah h h'):=by
          rintro k g' ρ' hsub rfl;refine G.sub (ρ':=[(2,.int .i64 n),(3,.pointer (some ⟨h.size,0,none⟩)),(7,.pointer (some ⟨h4.size,0,none⟩)),(12,.int .i64 ((j:Int)-1)),(13,.int .i64 k)]) hsub ?_;have hpl:=oy (hg.af e0g).wd (hvT e0g) hx12 hx2 r1 c1 k;refine xr func3 rfl ?_;refine xp rfl (an.bB H.pH H.mq rfl k3g.row (by first|rfl|(simp;done)|(simp;omega))) ?_;refine oH 1 rfl ?_;refine xo rfl (bu (vs:=[_,_]) func13 rfl H.O4 rfl (aj.jF (hpl))) ?_;rintro _ g1 ⟨hP,f1⟩;have hrp:=fun h (hv:aR mu h (fun _=>False) (.slice da dn dc) xs)=>xE (h:=h) hv hx12 hx2 r1 c1 k
          obtain⟨M,hM⟩:∃M,(cK r1.toNat c1.toNat (xs.take k.toNat)).1=M:=⟨_,rfl⟩
          rw[hM] at hP hrp
          rcases hP with ⟨hok,b,c',n',rfl,hnc,hnl,okM,hrow⟩|⟨hno,rfl⟩
          · subst hnl;refine oH 3 rfl ?_;refine xo rfl (aH.lW H.FM) ?_;rintro _ g2 ⟨rfl,kn2,f2,y2⟩;refine RW.mL rfl rfl rfl (aH.bZ H.iC rfl rfl kn2 (by first|rfl|(simp;done)|(simp;omega)) (by first|decide|exact of_decide_eq_true rfl|(simp;done)|(simp;omega)) ((jw rfl))) ?_;rintro _ g3 ⟨rfl,kf3,x3,y3⟩;have kf3:az g3 g1.size 41 (cy M.rows M.cols (.slice (some ⟨b,0,none⟩) M.xs.length c') M.row M.col):=kf3;have f13:ah g1 g3:=ah.only f2 x3 (Nat.le_refl _);have f03:=f1.trans f13;refine uv 1 [2,3,7,12,13,14,15] rfl ?_;refine xr func3 rfl ?_;refine xp rfl (an.bB H.FA H.B5 rfl (k7g.af f03).row (by first|rfl|(simp;done)|(simp;omega))) ?_;refine oH 1 rfl ?_;refine xo rfl (bu (vs:=[_,_]) func14 rfl H.M0 rfl (aj.jF (hrp _ (hv7g.af f03)))) ?_;rintro _ g4 ⟨hQ,f4⟩;obtain⟨b',c2',rfl,hrow'⟩:=(hQ.resolve_right (fun q=>q.1 hok)).2;refine oH 3 rfl ?_;refine xo rfl (aH.lW H.FM) ?_;rintro _ g5 ⟨rfl,kn5,f5,y5⟩;refine RW.mL rfl rfl rfl (aH.bZ H.iC rfl rfl kn5 (by first|rfl|(simp;done)|(simp;omega)) (by first|decide|exact of_decide_eq_true rfl|(simp;done)|(simp;omega)) ((jw rfl))) ?_;rintro _ g6 ⟨rfl,kf6,x6',y6⟩;have kf6:az g6 g4.size 41 (cy M.rows M.cols (gI b' M.xs.length c2') M.row M.col):=kf6;have f46:ah g4 g6:=ah.only f5 x6' (Nat.le_refl _);have f36:=f4.trans f46;have f06:=f03.trans f36;have kf36:=kf3.af f36;have hs:=okM.small (n:=M.xs.length) rfl;have hsame:=xK (rows:=M.rows) (cols:=M.cols) (c:=c') (c':=c2') (row:=M.row) (col:=M.col) (xs:=M.xs) rfl hs.1 ((f13.trans f36).rowAt (fun q=>q) hrow) (f46.rowAt (fun q=>q) hrow');refine uv 1 [2,3,7,12,13,14,15,16,17] rfl ?_;refine G.seq rfl ?_;refine G.Ce (fun(_u:Unit) (h':ai)=>ah g6 h') (fun(_u:Unit)=>[(104,.bool false)]) [(2,_),(3,_),(7,_),(12,_),(13,_),(14,_),(15,_),(16,_),(17,_)] ⟨rfl,rfl,rfl,rfl,rfl,rfl,rfl,rfl,rfl,trivial⟩ func3 rfl ?_ ?_
            · refine oH 4 rfl ?_;refine RW.aO (d:=95) (b':=false) rfl ((by decide)) ?_;refine oH 3 rfl ?_;refine RW.aO (d:=98) (b':=true) rfl ((by decide)) ?_;refine xp rfl (an.bB H.Lq H.iC rfl kf36.row (by first|rfl|(simp;done)|(simp;omega))) ?_;refine xp rfl (an.bB H.Lq H.iC rfl kf6.row (by first|rfl|(simp;done)|(simp;omega))) ?_;refine xo rfl (bu (vs:=[_,_]) func15 rfl H.O3 rfl (aj.jF (hsame))) ?_;rintro _ g7 ⟨rfl,f7⟩;refine oH 3 rfl ?_;refine eH rfl ?_;exact⟨(),f7,ak rfl (rfl),rfl,rfl,rfl,rfl,rfl,rfl,rfl,rfl,rfl,trivial⟩
            · rintro-g7 f7;refine jm rfl rfl (fun hc=>absurd hc (by decide)) (fun _=>?_);refine fR rfl ?_;refine G.gr ?_;refine G.eE func3 rfl ?_;refine Oj 1 rfl rfl (an.dZ rfl rfl ⟨by omega,by omega⟩) ?_;refine uv 1 [2,3,7,12,13,14,15,16,17,104] rfl ?_;exact ih (j+1) _ _ ⟨rfl,rfl,rfl,congrArg (fun x=>some (Value.int .i64 x)) (by push_cast;omega),trivial⟩ ⟨by omega,(eg.trans f06).trans f7⟩ (by omega)
          · refine oH 3 rfl ?_;refine xo rfl (aH.lW H.FM) ?_;rintro _ g2 ⟨rfl,kn2,f2,y2⟩;refine RW.mL rfl rfl rfl (aH.bZ H.iC rfl rfl kn2 (by first|rfl|(simp;done)|(simp;omega)) (by first|decide|exact of_decide_eq_true rfl|(simp;done)|(simp;omega)) ((jw rfl))) ?_;rintro _ g3 ⟨rfl,kf3,x3,y3⟩;have f13:ah g1 g3:=ah.only f2 x3 (Nat.le_refl _);have f03:=f1.trans f13;refine uv 1 [2,3,7,12,13,14,15] rfl ?_;refine xr func3 rfl ?_;refine xp rfl (an.bB H.FA H.B5 rfl (k7g.af f03).row (by first|rfl|(simp;done)|(simp;omega))) ?_;refine oH 1 rfl ?_;refine xo rfl (bu (vs:=[_,_]) func14 rfl H.M0 rfl (aj.jF (hrp _ (hv7g.af f03)))) ?_;rintro _ g4 ⟨hQ,f4⟩;obtain rfl:=(hQ.resolve_left (fun q=>hno q.1)).2;refine oH 3 rfl ?_;refine xo rfl (aH.lW H.FM) ?_;rintro _ g5 ⟨rfl,kn5,f5,y5⟩;refine RW.mL rfl rfl rfl (aH.bZ H.iC rfl rfl kn5 (by first|rfl|(simp;done)|(simp;omega)) (by first|decide|exact of_decide_eq_true rfl|(simp;done)|(simp;omega)) ((jw rfl))) ?_;rintro _ g6 ⟨rfl,kf6,x6',y6⟩;have f46:ah g4 g6:=ah.only f5 x6' (Nat.le_refl _);refine uv 1 [2,3,7,12,13,14,15,16,17] rfl ?_;refine G.seq rfl ?_;refine G.Gn [(104,.bool false)] [(2,_),(3,_),(7,_),(12,_),(13,_),(14,_),(15,_),(16,_),(17,_)] ⟨rfl,rfl,rfl,rfl,rfl,rfl,rfl,rfl,rfl,trivial⟩ func3 rfl ?_ ?_
            · refine oH 4 rfl ?_;refine RW.aO (d:=95) (b':=false) rfl ((by decide)) ?_;refine oH 3 rfl ?_;refine RW.aO (d:=98) (b':=false) rfl ((by decide)) ?_;refine oH 6 rfl ?_;refine eH rfl ?_;exact⟨rfl,ak rfl (rfl),rfl,rfl,rfl,rfl,rfl,rfl,rfl,rfl,rfl,trivial⟩
            · refine jm rfl rfl (fun hc=>absurd hc (by decide)) (fun _=>?_);refine fR rfl ?_;refine G.gr ?_;refine G.eE func3 rfl ?_;refine Oj 1 rfl rfl (an.dZ rfl rfl ⟨by omega,by omega⟩) ?_;refine uv 1 [2,3,7,12,13,14,15,16,17,104] rfl ?_;exact ih (j+1) _ _ ⟨rfl,rfl,rfl,congrArg (fun x=>some (Value.int .i64 x)) (by push_cast;omega),trivial⟩ ⟨by omega,(eg.trans f03).trans (f4.trans f46)⟩ (by omega)
         refine aQ (fun hm1=>?_) (fun hm1=>?_)
         · refine bU ?_
           iterate 2 refine aU ?_
           refine bJ ?_;exact pl n _ _ (by exact sb rfl) rfl
         · refine aI ?_;exact pl ((j:Int)-1) _ _ (by exact sb rfl) rfl
       · refine aa ?_;refine xo rfl (aG rfl (qq (hg.af e0g))) ?_;rintro _ g4 ⟨rfl,e4'⟩;refine aa ?_;refine aW ?_;exact⟨_,rfl,rfl,e0g.trans e4'⟩
end
end Go.Proofs.YtckomlgchbkekaaGreatDoor
namespace Go.Proofs.YtckomlgchbkekaaGreatDoor
open Go.Proofs.Tryz
open Go Go.Lw Go.ChangeShapes Go.WideShapes Go.ChangeAt Go.RowKit
set_option maxRecDepth 100000
theorem tB:Tryz.prog.underlying 24=some (.struct (Tryz.prog.fieldsOf 24)):=by kernel_rfl
theorem Hj:Tryz.prog.underlying 49=some (.struct (Tryz.prog.fieldsOf 49)):=by kernel_rfl
theorem vP {H:Type}{enc:TypeId×Value->H}{W:World}{base:Nat}{v:Value}{d:DataW H}{p:List MemPlace}(hv:Value.okWide Tryz.prog W .any base 24 v) (h:DataW.Trod enc Tryz.prog W 0 (fun _=>true) true 24 v d p) (hw:(d.weights Tryz.prog 24).all (· <=reachBytes)=true) :
 ∃(r c:Int) (w:Value) (xs:List Ev),v= .agg (gL r c w).toArray/\aR mu W.heap (fun _=>False) w xs/\xs.length*40<=140737488351232:=by
 unfold Value.okWide at hv;rw[tB] at hv;obtain⟨⟨l⟩,rfl,hs,_⟩:=hv;obtain⟨fuel,hf⟩:=h;obtain⟨ys,k,_,hx,_,hyl,hfl⟩:=DataW.trod_struct tB hf;have hs:l.length=3:=hs;have hyl:ys.length=3:=hyl
 match l,hs,ys,hyl with
 | [c0,c1,c2],_,[y0,y1,y2],_ =>
  have h0:DataW.trod enc Tryz.prog W 0 (fun _=>true) true k 3 [c0]=some y0:=hfl 0 _ rfl;have h1:DataW.trod enc Tryz.prog W 0 (fun _=>true) true k 3 [c1]=some y1:=hfl 1 _ rfl;have h2:DataW.trod enc Tryz.prog W 0 (fun _=>true) true k 22 [c2]=some y2:=hfl 2 _ rfl;obtain⟨n0,e0,_,_⟩:=DataW.trod_int underlying3 h0;obtain⟨n1,e1,_,_⟩:=DataW.trod_int underlying3 h1
  obtain⟨w,xs,e2,hx2,hz⟩:=IF (sz:=4) (en:=jy) (pos:=by decide) (hl:=fun _=>rfl) (h1:=Ke) (fs:=Tryz.prog.fieldsOf 49) underlying22 Hj (by kernel_rfl) (fun cs n hl hf=>by
   match cs,hl with
   | [c0,c1,c2,c3],_ =>
    obtain⟨y0,h0⟩:=hf 0 _ rfl;obtain⟨y1,h1⟩:=hf 1 _ rfl;obtain⟨y2,h2⟩:=hf 2 _ rfl;obtain⟨y3,h3⟩:=hf 3 _ rfl;obtain⟨n0,e0,_,_⟩:=DataW.trod_int underlying3 h0;obtain⟨n1,e1,_,_⟩:=DataW.trod_string underlying9 h1;obtain⟨n2,e2,_,_⟩:=DataW.trod_int underlying3 h2;obtain⟨n3,e3,_,_⟩:=DataW.trod_int underlying3 h3;obtain rfl:c0=_:=by injection e0
    obtain rfl:c1=_:=by injection e1
    obtain rfl:c2=_:=by injection e2
    obtain rfl:c3=_:=by injection e3
    exact⟨(n0,n1.data.toList,n2,n3),by simp[jy,NF]⟩) h2
  simp at e0 e1 e2;subst e0 e1 e2;have hd:d= .agg [y0.1,y1.1,y2.1]:=congrArg Prod.fst hx;rw[hd,DataW.weights,tB] at hw;refine⟨n0,n1,_,xs,rfl,hx2,?_⟩
  have hw2:(y2.1.weights Tryz.prog 22).all (· <=reachBytes)=true:=by
   have hw:(DataW.weightsEach Tryz.prog [3,3,22] [y0.1,y1.1,y2.1]).all (· <=reachBytes)=true:=hw;rw[DataW.weightsEach,DataW.weightsEach,DataW.weightsEach,List.all_append,List.all_append,List.all_append,Bool.and_eq_true,Bool.and_eq_true,Bool.and_eq_true] at hw;exact hw.2.2.1
  have:=hz _ hw2
  rwa [show Tryz.prog.bytesOf 49=40 by kernel_rfl,show reachBytes=140737488351232 from rfl] at this
end Go.Proofs.YtckomlgchbkekaaGreatDoor
